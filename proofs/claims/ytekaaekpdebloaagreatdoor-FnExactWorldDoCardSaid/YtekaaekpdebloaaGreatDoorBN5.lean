/- Words and walks of the law. -/
import Derived.Test.YtekaaekpdebloaaGreatDoorBM5
set_option linter.unusedVariables false
set_option linter.unusedSimpArgs false
set_option maxHeartbeats 12800000
set_option maxRecDepth 100000
namespace Go.Proofs.YtekaaekpdebloaaGreatDoor
open Go.RowKit

theorem qhB(a1 a2 a3 b1 b2 b3:Int)(w:World):
 (binOp .eql 46 (.agg #[.int .i64 a1,.int .i64 a2,.int .i64 a3]) (.agg #[.int .i64 b1,.int .i64 b2,.int .i64 b3])).run Tryz.prog w=.ok (.bool (a1==b1&&a2==b2&&a3==b3)) w:=by
 rw[run_eql_struct,run_equalIn_agg _ _ _ _ _ d_ d_];by_cases h1:a1=b1 <;> by_cases h2:a2=b2 <;> by_cases h3:a3=b3 <;> simp[go_sem,h1,h2,h3]
theorem qar{B:Nat}{a b:World}(h:Below B a b)(hB:B≤b.heap.size)(o:Obj):Below B a (b.alloc o):=h.alloc hB o
theorem qcI{B:Nat}{a b c:World}(h:Below B a b)(hB:B≤b.heap.size)(k:bB b c):Below B a c:=h.trans (k.mono hB)
theorem qlU(w:World)(o:Obj):w.heap.size<(w.alloc o).heap.size:=by simp
theorem qhg{W:World}{q:Nat}{x0 x1 x2:Value}{t:TypeId}(h:W.heap[q]? =some (.cells #[x0,x1,x2] t (0,0))):W.cell? ⟨q,0,none⟩=some x0∧W.cell? ⟨q,1,none⟩=some x1∧W.cell? ⟨q,2,none⟩=some x2∧∀ o,W.frozen? ⟨q,o,none⟩=false:=
 ⟨cell_of_row _ _ 0 _ _ _ h,cell_of_row _ _ 1 _ _ _ h,cell_of_row _ _ 2 _ _ _ h,fun o=>am_⟩
theorem qd9{s:ByteArray}{d:Int}(h:Hid (qbi s.data.toList=d))(w:World)(hs:s.size≤maxLen):gS 132 #[.string s] w (.int .i64 d):=by
 rw[←h.out];exact qe7 s w hs
theorem qag{w:World}{n:Nat}(h:n≤w.heap.size):n≤w.drew.heap.size:=h
theorem qaw{w:World}{n:Nat}(h:n≤w.heap.size)(o:Obj):n≤(w.alloc o).heap.size:=by simp;omega
theorem R1.get{α:Type}{enc:α→Value}{w:World}{A:Option Addr}{n c:Nat}{l:List α}(h:R1 enc w (.slice A n c) l){j:Nat}(hj:j<l.length):∃ b o,A=some ⟨b,o,none⟩∧b<w.heap.size∧w.cell? ⟨b,o+j,none⟩=some (enc l[j]):=by
 obtain⟨_,_,e,h1,h2,h3⟩:=h;cases e
 obtain⟨b,o,hA,hb,hc⟩:=h3 a_;exact⟨b,o,hA,hb,hc j hj⟩
theorem qie{s:Int}{f0 f:Fd}{k:Nat}(h:k<f.bl.length)(hp:qb8 f0 f k=false):qcy s f0 f=false:=by
 unfold qcy;rw[qdi h hp,Bool.and_false]
theorem qdU{f:Fd}(h:qaq f=true):(f.bl.length:Int)=f.hd.len∧f.hv.length=f.bl.length∧f.bl.length≤16∧∀ t ∈ f.bl,t.size≤8:=by
 obtain⟨h1,h2,h3⟩:=qax h;exact⟨h3,h1.symm,h2,qbH h⟩

theorem qlS(fs:List Fd)(f:Fd)(s b:Int)(vF vL vK vN va vh:Value)(w:World)(hF:qa6 w vF fs)(hf:qaU w f va vh)(h0:0<fs.length)(hv0:qaq (fs.getD 0 Fd.none)=true):
 gV 59 #[.agg #[.int .i64 s,.int .i64 b,vF,vL,vK,vN],.agg #[.int .i64 f.pub,.int .i64 f.hd.len,.int .i64 f.hd.dg,.int .i64 f.hd.sg,va,vh]] w (.bool (qcy s (fs.getD 0 Fd.none) f)):=by
 obtain⟨P0,⟨L,D,S⟩,bl,hv⟩:=f;obtain⟨hbl,hhv⟩:=hf;simp only at hbl hhv ⊢;obtain⟨vA,vc,rfl⟩:=hF.sl;obtain⟨xA,xc,rfl⟩:=hbl.sl';obtain⟨yA,yc,rfl⟩:=hhv.sl';obtain⟨W0,HW0⟩:=nm_ ((w.alloc (.cells #[.int .i64 s,.int .i64 b,.slice vA fs.length vc,vL,vK,vN] 28)).alloc (.cells #[.int .i64 P0,.int .i64 L,.int .i64 D,.int .i64 S,.slice xA bl.length xc,.slice yA hv.length yc] 50));have HB0:Hid (bB w W0):=hI_ r_;have hp:W0.heap[w.heap.size]? =some (.cells #[.int .i64 s,.int .i64 b,.slice vA fs.length vc,vL,vK,vN] 28 (0,0)):=by
  rw[←HW0.out,heap_alloc_old _ _ k_];exact heap_alloc_new w _
 have hq:W0.heap[w.heap.size+1]? =some (.cells #[.int .i64 P0,.int .i64 L,.int .i64 D,.int .i64 S,.slice xA bl.length xc,.slice yA hv.length yc] 50 (0,0)):=by
  rw[←HW0.out];have:=heap_alloc_new (w.alloc (.cells #[.int .i64 s,.int .i64 b,.slice vA fs.length vc,vL,vK,vN] 28)) (.cells #[.int .i64 P0,.int .i64 L,.int .i64 D,.int .i64 S,.slice xA bl.length xc,.slice yA hv.length yc] 50);simpa using this
 have lp:=(Array.getElem?_eq_some_iff.1 hp).1;have lq:=(Array.getElem?_eq_some_iff.1 hq).1;have HF:=hI_ (hF.below HB0.out);have HX:=hI_ (hbl.below HB0.out);have HY:=hI_ (hhv.below HB0.out);obtain⟨b0,o,z0x,z1x,rfl,hbs,c0,c1,c2,c3,c4,c5,c6⟩:=HF.out.at0 h0;have HF0:=hI_ c6;obtain⟨zA,zc,rfl⟩:=c6.bl.sl';have hm:=hF.len;unfold maxLen at hm;obtain⟨f0,HF00⟩:=nm_ (fs.getD 0 Fd.none);rw[HF00.out] at HF0 hv0 c0 c1 c2 c3 c4 ⊢;have HV0:=hI_ hv0;obtain⟨g1,g2,g3,g4⟩:=qdU hv0;have G4:=hI_ g4;have G1:=hI_ g1;obtain⟨p0,p1,p2,p3,p4,p5,pf⟩:=qaa hp;obtain⟨q0,q1,q2,q3,q4,q5,qf⟩:=qaa hq;have HP:=hI_ hp;have HQ:=hI_ hq;have h0i:(0:Int)<(fs.length:Int):=a_;have HZ0:=hI_ c4;have HL0:=hI_ c1;have hbsz:=hbs;clear hF hbl hhv hp hq c6 hv0 g4 c0 c2 c3 c5 g1 g2;obtain⟨bv,HV⟩:=nm_ (qaq ⟨P0,⟨L,D,S⟩,bl,hv⟩);obtain⟨p,HPU⟩:=nm_ (qhr s);have HRF:Hid (qaU W0 ⟨P0,⟨L,D,S⟩,bl,hv⟩ (.slice xA bl.length xc) (.slice yA hv.length yc)):=hI_ ⟨HX.out,HY.out⟩;have HFK:Hid (qcy s f0 ⟨P0,⟨L,D,S⟩,bl,hv⟩=(bv&&P0==p&&decide (L≤f0.hd.len)&&(L==0||qlJ ⟨L,D,S⟩ (qbJ s ((lvs f0.bl).take L.toNat)).1)&&qdv bl.length (qb8 f0 ⟨P0,⟨L,D,S⟩,bl,hv⟩))):=hI_ (by unfold qcy;rw[HV.out,HPU.out]);cases bv
 · have hup:=qap W0;go_enter Tryz.func59,Tryz.ntmps59
   go_wp2_with fail
   rw[HW0.out];refine qoH ?_;repeat(go_big_quiet_step (first
    |(go_at_call 56;exact qal (qbD HV _ _ _ (HRF.out.below (qao _ _))))
    |(go_at_call 126;exact qaj (qcs HPU _))))
   refine wq_ fun w1 hb1=>?_;clear hup;go_wp2
   go_ret;exact⟨qaM (by rw[HFK.out];rfl),HB0.out.trans (hb1.mono HB0.out.size)⟩
 obtain⟨l1,l2,l3,l4⟩:=qdU HV.out;have L4:=hI_ l4;clear l4;simp only at l1 l2 l3;subst l1;have L2:=hI_ l2;clear l2;by_cases hpe:P0=p
 case neg=>
  have hpe':(P0 !=p)=true:=by simp[hpe]
  have hup:=qap W0;go_enter Tryz.func59,Tryz.ntmps59
  go_wp2_with fail
  rw[HW0.out];refine qoH ?_;repeat(go_big_quiet_step (first
   |(go_at_call 56;exact qal (qbD HV _ _ _ (HRF.out.below (qao _ _))))
   |(go_at_call 126;exact qaj (qcs HPU _))))
  refine wq_ fun w1 hb1=>?_;clear hup;go_wp2
  go_ret;exact⟨qaM (by rw[HFK.out,show(P0==p)=false by simp[hpe]];rfl),HB0.out.trans (hb1.mono HB0.out.size)⟩
 have hpe':(P0 !=p)=false:=by simp[hpe]
 have HPE:Hid ((P0==p)=true):=hI_ (by simp[hpe]);clear hpe;by_cases hle:f0.hd.len<(bl.length:Int)
 · have hup:=qap W0;have HLE:Hid (decide ((bl.length:Int)≤f0.hd.len)=false):=hI_ (by rw[decide_eq_false_iff_not];omega);go_enter Tryz.func59,Tryz.ntmps59
   go_wp2_with fail
   rw[HW0.out];refine qoH ?_;repeat(go_big_quiet_step (first
    |(go_at_call 56;exact qal (qbD HV _ _ _ (HRF.out.below (qao _ _))))
    |(go_at_call 126;exact qaj (qcs HPU _))))
   refine wq_ fun w1 hb1=>?_;clear hup;go_wp2
   go_ret;exact⟨qaM (by rw[HFK.out,HLE.out,Bool.and_false];rfl),HB0.out.trans (hb1.mono HB0.out.size)⟩
 have HLE:Hid (decide ((bl.length:Int)≤f0.hd.len)=true):=hI_ (by rw[decide_eq_true_eq];omega);have hlb:bl.length≤f0.bl.length:=by have:=G1.out;omega
 have dle:decide (f0.hd.len<(bl.length:Int))=false:=by rw[decide_eq_false_iff_not];exact hle
 obtain⟨h,ok,HH⟩:∃ h ok,Hid (qbJ s ((lvs f0.bl).take bl.length)=(h,ok)):=⟨_,_,hI_ rfl⟩
 have HFR:Hid (qcy s f0 ⟨P0,⟨(bl.length:Int),D,S⟩,bl,hv⟩=(((bl.length:Int)==0||qlJ ⟨bl.length,D,S⟩ h)&&qdv bl.length (qb8 f0 ⟨P0,⟨bl.length,D,S⟩,bl,hv⟩))):=hI_ (by rw[HFK.out,HPE.out,HLE.out,Int.toNat_natCast,HH.out];rfl);clear hle;have hup:=qap W0;go_enter Tryz.func59,Tryz.ntmps59
 go_wp2_with fail
 rw[HW0.out];refine qoH ?_;repeat(go_big_quiet_step (first
  |(go_at_call 56;exact qal (qbD HV _ _ _ (HRF.out.below (qao _ _))))
  |(go_at_call 126;exact qaj (qcs HPU _))))
 refine wq_ fun w1 hb1=>?_;clear hup;have hb1':=hI_ hb1;obtain⟨p0,p1,p2,p3,p4,p5,pf⟩:=qaa ((hb1.block _ lp).trans HP.out);obtain⟨q0,q1,q2,q3,q4,q5,qf⟩:=qaa ((hb1.block _ lq).trans HQ.out);clear dle c1 c4 hb1;go_wp2
 go_loopw [5] (fun i wr=>∃ k:Nat,k≤bl.length∧i=.int .i64 k∧qdv k (qb8 f0 ⟨P0,⟨bl.length,D,S⟩,bl,hv⟩)=true∧bB W0 wr) (fun i _=>bl.length-(intOf i).toNat)
 case atStart=>exact⟨0,Nat.zero_le _,rfl,qb9,hb1'.out⟩
 case round=>
  obtain⟨k,hk,rfl,hno,hbw⟩:=hrel;have HNO:=hI_ hno;have HBW:=hI_ hbw;clear p0 p1 p2 p3 p4 p5 pf q0 q1 q2 q3 q4 q5 qf hno;obtain⟨p0,p1,p2,p3,p4,p5,pf⟩:=qaa ((hbw.block _ lp).trans HP.out);obtain⟨q0,q1,q2,q3,q4,q5,qf⟩:=qaa ((hbw.block _ lq).trans HQ.out);have lpr:=nL_ lp hbw.size;have lqr:=nL_ lq hbw.size;have lbr:=nL_ hbs hbw.size;have c4:=(hbw.cell (p:=⟨b0,o+4,none⟩) hbs).trans HZ0.out;clear hbw;by_cases hlt:k<bl.length
  case neg=>
   obtain rfl:k=bl.length:=a_;have hsz0:W0.heap.size≤wr.heap.size:=HBW.out.size;obtain⟨pp0,pp1,pp2,pp3,pp4,pp5,ppf⟩:=qaa HP.out;obtain⟨qq0,qq1,qq2,qq3,qq4,qq5,qqf⟩:=qaa HQ.out;clear qq0 qq2 qq3 qq4 qq5;have heq:∀ w:World,(binOp .eql 46 (.agg #[.int .i64 (bl.length:Int),.int .i64 D,.int .i64 S]) (.agg #[.int .i64 h.len,.int .i64 h.dg,.int .i64 h.sg])).run Tryz.prog w=.ok (.bool (qlJ ⟨bl.length,D,S⟩ h)) w:=fun w=>by rw[qhB];rfl
   go_wp2
   go_region_held3 (fun w'=>w'.cell? ⟨w.heap.size,0,none⟩=some (.int .i64 s)∧w'.cell? ⟨w.heap.size,1,none⟩=some (.int .i64 b)∧w'.cell? ⟨w.heap.size,2,none⟩=some (.slice (some ⟨b0,o,none⟩) fs.length vc)∧w'.cell? ⟨w.heap.size,3,none⟩=some (vL)∧w'.cell? ⟨w.heap.size,4,none⟩=some (vK)∧w'.cell? ⟨w.heap.size,5,none⟩=some (vN)∧w'.cell? ⟨w.heap.size+1,1,none⟩=some (.int .i64 (bl.length:Int)))
    (exact⟨(Below.cell g_ lp).trans pp0,(Below.cell g_ lp).trans pp1,(Below.cell g_ lp).trans pp2,(Below.cell g_ lp).trans pp3,(Below.cell g_ lp).trans pp4,(Below.cell g_ lp).trans pp5,(Below.cell g_ lq).trans qq1⟩)
    (first
      |(go_at_call 134;refine(qc3 fs bl.length s b _ vL vK vN _ (HF.out.below g_) h0 (by rw[HF00.out];exact hlb) a8_ aU_).mono ?_;rintro e w2 ⟨v2,rfl,ho2,hb2⟩;rw[HF00.out] at ho2
        have hbm:bB W0 w2:=qcI g_ b_ hb2;have hsz2:=hbm.size;try(have hz2:=(hb2.block _ (qlU _ _)).trans (heap_alloc_new _ _);obtain⟨a0,a1,a2,af⟩:=qhg hz2))
      |(go_at_call 133;refine(qfD HH _ _ (by first|exact ho2.r1|exact(ho2.alloc _).r1|exact(ho2.alloc _).r1)).mono ?_;rintro e w3 ⟨rfl,hb3⟩
        have hbn:bB W0 w3:=qcI g_ b_ hb3;have hsz3:=hbn.size;try(have hz3:=(hb3.block _ (qlU _ _)).trans (heap_alloc_new _ _);obtain⟨a0,a1,a2,af⟩:=qhg hz3)
        try(have hz3:=(hb3.block _ (Array.getElem?_eq_some_iff.1 hz2).1).trans hz2;obtain⟨a0,a1,a2,af⟩:=qhg hz3)))
   all_goals(
    obtain⟨r0,r1,r2,r3,r4,r5,rf⟩:=qaa ((hbn.block _ lq).trans HQ.out);have n1:w.heap.size+1<wr.heap.size:=lqr;have n2:=nL_ lq hsz2;have n3:=nL_ lq hsz3;by_cases hz:bl.length=0
    · have hz':((bl.length:Int)==0)=true:=by simp[hz]
      have HZ':=hI_ hz';go_wp2
      go_ret;exact⟨qaM (by rw[HFR.out,HZ'.out,HNO.out];rfl),HB0.out.trans (Below.mono g_ HB0.out.size)⟩
    · have hz':((bl.length:Int)==0)=false:=by simp[hz]
      have HZ':=hI_ hz';go_wp2
      go_ret;exact⟨qaM (by rw[HFR.out,HZ'.out,HNO.out,Bool.and_true];rfl),HB0.out.trans (Below.mono g_ HB0.out.size)⟩)
  have hlt2:k<hv.length:=by have:=L2.out;omega
  have hlt3:k<f0.bl.length:=a_;obtain⟨t1,i1,rfl,s1,d1⟩:=(HX.out.below HBW.out).get hlt;obtain⟨t2,i2,rfl,s2,d2⟩:=(HY.out.below HBW.out).get hlt2;obtain⟨t3,i3,rfl,s3,d3⟩:=(HF0.out.bl.below HBW.out).get hlt3;have hki:(k:Int)<(bl.length:Int):=a_;have hki2:(k:Int)<(hv.length:Int):=a_;have hki3:(k:Int)<(f0.bl.length:Int):=a_;have hk0:(0:Int)≤(k:Int):=a_;obtain⟨e1,E1⟩:=nm_ (qbi bl[k].data.toList);obtain⟨e3,E3⟩:=nm_ (qbi f0.bl[k].data.toList);have z1:bl[k].size≤8:=L4.out _ (List.getElem_mem hlt);have z3:f0.bl[k].size≤8:=G4.out _ (List.getElem_mem hlt3);have Z1:Hid (bl[k].size≤maxLen):=hI_ s_;have Z3:Hid (f0.bl[k].size≤maxLen):=hI_ s_;have HBA:Hid (qb8 f0 ⟨P0,⟨bl.length,D,S⟩,bl,hv⟩ k=(!hv[k]||e1==e3)):=hI_ (by unfold qb8;simp only;rw[qam hlt,qam hlt2,qam hlt3,E1.out,E3.out]);generalize bl[k]=u1 at*
  generalize hv[k]=u2 at*
  generalize f0.bl[k]=u3 at*
  clear z1 z3;have hup:=qap wr;cases u2
  · go_wp2
    refine qoH ?_;repeat(go_big_quiet_step (first
     |(go_at_call_of 132 (Value.string u1);exact qaj (qd9 E1 _ Z1.out))
     |(go_at_call 132;exact qaj (qd9 E3 _ Z3.out))))
    refine wq_ fun w1 hb1=>?_;clear hup;go_wp2
    go_roundw
    case rel=>exact⟨k+1,a_,t_,qbh HNO.out au_,HBW.out.trans (hb1.mono HBW.out.size)⟩
    case measure=>simp[intOf];omega
  by_cases hee:e1=e3
  · have hee':(e1 !=e3)=false:=a7_;have HE:Hid ((e1==e3)=true):=hI_ a7_;go_wp2
    refine qoH ?_;repeat(go_big_quiet_step (first
     |(go_at_call_of 132 (Value.string u1);exact qaj (qd9 E1 _ Z1.out))
     |(go_at_call 132;exact qaj (qd9 E3 _ Z3.out))))
    refine wq_ fun w1 hb1=>?_;clear hup;go_wp2
    go_roundw
    case rel=>exact⟨k+1,a_,t_,qbh HNO.out au_,HBW.out.trans (hb1.mono HBW.out.size)⟩
    case measure=>simp[intOf];omega
  · have hee':(e1 !=e3)=true:=a7_;have HE:Hid ((e1==e3)=false):=hI_ a7_;clear hee;go_wp2
    refine qoH ?_;repeat(go_big_quiet_step (first
     |(go_at_call_of 132 (Value.string u1);exact qaj (qd9 E1 _ Z1.out))
     |(go_at_call 132;exact qaj (qd9 E3 _ Z3.out))))
    refine wq_ fun w1 hb1=>?_;clear hup;go_wp2
    go_ret;exact⟨qaM (qie hlt (by rw[HBA.out,HE.out];rfl)).symm,HB0.out.trans ((HBW.out.trans (hb1.mono HBW.out.size)).mono HB0.out.size)⟩
theorem qkL(fs:List Fd)(p:Pc)(s b:Int)(vF vL vK vN vp:Value)(w:World)(hF:qa6 w vF fs)(hp:RI w vp p.prf)(h0:0<fs.length)(hv0:qaq (fs.getD 0 Fd.none)=true)(ht:p.txt.size≤maxLen):
 gV 61 #[.agg #[.int .i64 s,.int .i64 b,vF,vL,vK,vN],.agg #[.int .i64 p.fr,.int .i64 p.to_,.int .i64 p.len,.int .i64 p.idx,.string p.txt,vp]] w (.bool (qaX fs.length (fs.getD 0 Fd.none) p)):=by
 obtain⟨fr,to_,len,idx,txt,prf⟩:=p;simp only at hp ht ⊢;obtain⟨vA,vc,rfl⟩:=hF.sl;obtain⟨xA,xc,rfl⟩:=hp.sl';obtain⟨W0,HW0⟩:=nm_ ((w.alloc (.cells #[.int .i64 s,.int .i64 b,.slice vA fs.length vc,vL,vK,vN] 28)).alloc (.cells #[.int .i64 fr,.int .i64 to_,.int .i64 len,.int .i64 idx,.string txt,.slice xA prf.length xc] 57));have HB0:Hid (bB w W0):=hI_ r_;have hpb:W0.heap[w.heap.size]? =some (.cells #[.int .i64 s,.int .i64 b,.slice vA fs.length vc,vL,vK,vN] 28 (0,0)):=by
  rw[←HW0.out,heap_alloc_old _ _ k_];exact heap_alloc_new w _
 have hq:W0.heap[w.heap.size+1]? =some (.cells #[.int .i64 fr,.int .i64 to_,.int .i64 len,.int .i64 idx,.string txt,.slice xA prf.length xc] 57 (0,0)):=by
  rw[←HW0.out];have:=heap_alloc_new (w.alloc (.cells #[.int .i64 s,.int .i64 b,.slice vA fs.length vc,vL,vK,vN] 28)) (.cells #[.int .i64 fr,.int .i64 to_,.int .i64 len,.int .i64 idx,.string txt,.slice xA prf.length xc] 57);simpa using this
 have lp:=(Array.getElem?_eq_some_iff.1 hpb).1;have lq:=(Array.getElem?_eq_some_iff.1 hq).1;have HF:=hI_ (hF.below HB0.out);have HX:=hI_ (hp.below HB0.out);obtain⟨b0,o,z0x,z1x,rfl,hbs,c0,c1,c2,c3,c4,c5,c6⟩:=HF.out.at0 h0;have hm:=hF.len;unfold maxLen at hm ht;obtain⟨f0,HF00⟩:=nm_ (fs.getD 0 Fd.none);rw[HF00.out] at hv0 c1 ⊢;obtain⟨g1,g2,g3,g4⟩:=qdU hv0;have G4:=hI_ g4;have G1:=hI_ g1;obtain⟨p0,p1,p2,p3,p4,p5,pf⟩:=qaa hpb;obtain⟨q0,q1,q2,q3,q4,q5,qf⟩:=qaa hq;have h0i:(0:Int)<(fs.length:Int):=a_;clear hF hp hpb hq c6 hv0 g4 c0 c2 c3 c4 c5 g1 g2;have hup:=qap W0;cases h1:inB fr 0 ((fs.length:Int)-1)
 · go_enter Tryz.func61,Tryz.ntmps61
   go_wp2_with fail
   rw[HW0.out];refine qoH ?_;repeat(go_big_quiet_step ((go_at_call 124;exact qaj (qaV _ _ _ _))))
   refine wq_ fun w1 hb1=>?_;clear hup;go_wp2
   go_ret;exact⟨qaM (by unfold qaX;simp only[h1];simp),HB0.out.trans (hb1.mono HB0.out.size)⟩
 cases h2:inB to_ 0 ((fs.length:Int)-1)
 · go_enter Tryz.func61,Tryz.ntmps61
   go_wp2_with fail
   rw[HW0.out];refine qoH ?_;repeat(go_big_quiet_step ((go_at_call 124;exact qaj (qaV _ _ _ _))))
   refine wq_ fun w1 hb1=>?_;clear hup;go_wp2
   go_ret;exact⟨qaM (by unfold qaX;simp only[h1,h2];simp),HB0.out.trans (hb1.mono HB0.out.size)⟩
 cases h3:inB len 1 f0.hd.len
 · go_enter Tryz.func61,Tryz.ntmps61
   go_wp2_with fail
   rw[HW0.out];refine qoH ?_;repeat(go_big_quiet_step ((go_at_call 124;exact qaj (qaV _ _ _ _))))
   refine wq_ fun w1 hb1=>?_;clear hup;go_wp2
   go_ret;exact⟨qaM (by unfold qaX;simp only[h1,h2,h3];simp),HB0.out.trans (hb1.mono HB0.out.size)⟩
 obtain⟨hl1,hl2⟩:=qak.1 h3;have hl16:len≤16:=by have:=G1.out;omega
 cases h4:inB idx 0 (len-1)
 · go_enter Tryz.func61,Tryz.ntmps61
   go_wp2_with fail
   rw[HW0.out];refine qoH ?_;repeat(go_big_quiet_step ((go_at_call 124;exact qaj (qaV _ _ _ _))))
   refine wq_ fun w1 hb1=>?_;clear hup;go_wp2
   go_ret;exact⟨qaM (by unfold qaX;simp only[h1,h2,h3,h4];simp),HB0.out.trans (hb1.mono HB0.out.size)⟩
 by_cases h5:txt.size≤8
 case neg=>
  have h5':(8:Int)<(txt.size:Int):=a_;have d5:decide (txt.size≤8)=false:=by simp;omega
  go_enter Tryz.func61,Tryz.ntmps61
  go_wp2_with fail
  rw[HW0.out];refine qoH ?_;repeat(go_big_quiet_step ((go_at_call 124;exact qaj (qaV _ _ _ _))))
  refine wq_ fun w1 hb1=>?_;clear hup;go_wp2
  go_ret;exact⟨qaM (by unfold qaX;simp only[h1,h2,h3,h4,d5];simp),HB0.out.trans (hb1.mono HB0.out.size)⟩
 have h5':decide ((8:Int)<(txt.size:Int))=false:=by rw[decide_eq_false_iff_not];omega
 have d5:decide (txt.size≤8)=true:=by simp;omega
 obtain⟨m,HM⟩:∃ m:Nat,len=(m:Int):=⟨len.toNat,a_⟩
 subst HM;have hmb:m≤f0.bl.length:=by have:=G1.out;omega
 have HFIN:Hid (qaX fs.length f0 ⟨fr,to_,m,idx,txt,prf⟩=(prf==qaQ ((lvs f0.bl).take m) idx)):=hI_ (by unfold qaX;simp only[h1,h2,h3,h4,d5,Int.toNat_natCast,Bool.true_and]);go_enter Tryz.func61,Tryz.ntmps61
 go_wp2_with fail
 rw[HW0.out];refine qoH ?_;repeat(go_big_quiet_step ((go_at_call 124;exact qaj (qaV _ _ _ _))))
 refine wq_ fun w1 hb1=>?_;clear hup;have hsz0:W0.heap.size≤w1.heap.size:=hb1.size;clear h1 h2 h3 h4 h5' d5 c1;have kp:=(hb1.block _ lp)
 go_wp2
 go_region_held3 (fun w'=>w'.cell? ⟨w.heap.size,0,none⟩=some (.int .i64 s)∧w'.cell? ⟨w.heap.size,1,none⟩=some (.int .i64 b)∧w'.cell? ⟨w.heap.size,2,none⟩=some (.slice (some ⟨b0,o,none⟩) fs.length vc)∧w'.cell? ⟨w.heap.size,3,none⟩=some (vL)∧w'.cell? ⟨w.heap.size,4,none⟩=some (vK)∧w'.cell? ⟨w.heap.size,5,none⟩=some (vN)∧w'.cell? ⟨w.heap.size+1,2,none⟩=some (.int .i64 (m:Int))∧w'.cell? ⟨w.heap.size+1,3,none⟩=some (.int .i64 idx)∧w'.cell? ⟨w.heap.size+1,5,none⟩=some (.slice xA prf.length xc))
  (exact⟨(Below.cell c_ lp).trans p0,(Below.cell c_ lp).trans p1,(Below.cell c_ lp).trans p2,(Below.cell c_ lp).trans p3,(Below.cell c_ lp).trans p4,(Below.cell c_ lp).trans p5,(Below.cell c_ lq).trans q2,(Below.cell c_ lq).trans q3,(Below.cell c_ lq).trans q5⟩)
  (first
    |(go_at_call 134;refine(qc3 fs m s b _ vL vK vN _ (HF.out.below c_) h0 (by rw[HF00.out];exact hmb) a8_ aU_).mono ?_;rintro e w2 ⟨v2,rfl,ho2,hb2⟩;rw[HF00.out] at ho2
      have hbm:bB W0 w2:=qcI c_ b_ hb2;have hsz2:=hbm.size)
    |(go_at_call 140;refine(qem _ idx _ _ ho2.r1).mono ?_;rintro e w3 ⟨v3,rfl,ho3,hb3⟩
      have hbn:bB W0 w3:=qcI c_ b_ hb3;have hsz3:=hbn.size)
    |(go_at_call 139;refine(qjy prf _ _ _ _ (HX.out.below c_) ho3.r1).mono ?_;rintro e w4 ⟨rfl,hb4⟩
      have hbo:bB W0 w4:=qcI c_ b_ hb4))
 all_goals(
  go_wp2
  go_ret;exact⟨qaM HFIN.out.symm,HB0.out.trans (Below.mono c_ HB0.out.size)⟩)
end Go.Proofs.YtekaaekpdebloaaGreatDoor

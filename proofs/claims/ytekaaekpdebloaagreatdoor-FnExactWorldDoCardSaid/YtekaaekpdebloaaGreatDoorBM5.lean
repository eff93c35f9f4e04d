/- Words and walks of the law. -/
import Derived.Test.YtekaaekpdebloaaGreatDoorBK5
set_option linter.unusedVariables false
set_option linter.unusedSimpArgs false
set_option maxHeartbeats 12800000
set_option maxRecDepth 100000
namespace Go.Proofs.YtekaaekpdebloaaGreatDoor
open Go.RowKit

theorem qfV:(Tryz.prog.info? 99).map (fun i=>(i.zero,i.size,i.bytes))=some (some (.agg #[.int .i64 0,.int .i64 0]),2,16):=by kernel_rfl
theorem qhs:(Tryz.prog.info? 109).map (fun i=>(i.zero,i.size,i.bytes))=some (some (.agg #[.int .i64 0,.int .i64 0]),2,16):=by kernel_rfl
theorem qd8:(Tryz.prog.info? 57).map (fun i=>(i.zero,i.size,i.bytes))=some (some (.agg #[.int .i64 0,.int .i64 0,.int .i64 0,.int .i64 0,.string ⟨#[]⟩,.slice none 0 0]),6,72):=by kernel_rfl
theorem qgc(a1 a2 b1 b2:Int)(w:World):
 (binOp .eql 109 (.agg #[.int .i64 a1,.int .i64 a2]) (.agg #[.int .i64 b1,.int .i64 b2])).run Tryz.prog w=.ok (.bool (a1==b1&&a2==b2)) w:=by
 rw[run_eql_struct,run_equalIn_agg _ _ _ _ _ d_ d_];by_cases h1:a1=b1 <;> by_cases h2:a2=b2 <;> simp[go_sem,h1,h2]
theorem qkI(x:Int×Int)(w:World):gV 135 #[.agg #[.int .i64 x.1,.int .i64 x.2]] w (.bool (qcB x)):=by
 cases h1:inB x.1 0 5
 · have hb:=(bR_ w.heap.size w).alloc (nr_ _) (.cells #[.int .i64 x.1,.int .i64 x.2] 109);have HB:=hI_ hb;clear hb;go_enter Tryz.func135,Tryz.ntmps135
   go_wp2_with (go_at_call 124;refine(qaV _ _ _ _).mono ?_;rintro e w' ⟨rfl,rfl⟩)
   go_ret;exact⟨qaM (by unfold qcB;rw[h1];rfl),HB.out⟩
 · have hb:=(bR_ w.heap.size w).alloc (nr_ _) (.cells #[.int .i64 x.1,.int .i64 x.2] 109);have HB:=hI_ hb;clear hb;go_enter Tryz.func135,Tryz.ntmps135
   go_wp2_with (go_at_call 124;refine(qaV _ _ _ _).mono ?_;rintro e w' ⟨rfl,rfl⟩)
   go_ret;exact⟨qaM (by unfold qcB;rw[h1,Bool.true_and]),HB.out⟩
theorem qcJ{x:Int×Int}{b:Bool}(h:Hid (qcB x=b))(w:World):gV 135 #[.agg #[.int .i64 x.1,.int .i64 x.2]] w (.bool b):=by
 rw[←h.out];exact qkI x w
theorem qjs(l:List (Int×Int))(p:Int)(v:Value)(w:World)(hv:RP w v l):gS 137 #[v,.int .i64 p] w (.int .i64 (qcX l p:Nat)):=by
 have HV:=hI_ hv;have hm:=hv.len;obtain⟨A,c,rfl⟩:=hv.sl;unfold maxLen at hm;clear hv;go_enter Tryz.func137,Tryz.ntmps137
 go_wp2
 go_loop [5,6] (fun t i=>∃ k:Nat,k≤l.length∧i=.int .i64 k∧t=.int .i64 (qcX (l.take k) p:Nat)) (fun _ i=>l.length-(intOf i).toNat)
 case atStart=>exact⟨0,Nat.zero_le _,rfl,rfl⟩
 case round=>
  obtain⟨k,hk,rfl,rfl⟩:=hrel;by_cases hlt:k<l.length
  · obtain⟨b,o,rfl,hbs,e0,e1⟩:=HV.out.at_ hlt;have HS:=hI_ (qh7 hlt p);have hcl:qcX (l.take k) p≤k:=Nat.le_trans (qfL _ _) (List.length_take_le _ _);have hki:(k:Int)<(l.length:Int):=a_;generalize qcX (l.take k) p=t at*
    generalize l[k]=x at*
    by_cases hx:x.1=p
    · have HX:Hid (qcX (l.take (k+1)) p=t+1):=hI_ bf_;clear HS;go_wp2
      go_round
      case rel=>exact⟨k+1,a_,t_,by rw[HX.out];go_num⟩
      case measure=>simp[intOf];omega
    · have HX:Hid (qcX (l.take (k+1)) p=t):=hI_ al_;clear HS;go_wp2
      go_round
      case rel=>exact⟨k+1,a_,t_,aM_⟩
      case measure=>simp[intOf];omega
  · obtain rfl:k=l.length:=a_;go_wp2
    go_ret;exact⟨rfl,rfl⟩
theorem qc2{l:List (Int×Int)}{p:Int}{n:Nat}(h:Hid (qcX l p=n))(v:Value)(w:World)(hv:RP w v l):gS 137 #[v,.int .i64 p] w (.int .i64 (n:Nat)):=by
 rw[←h.out];exact qjs l p v w hv
theorem qip(l:List (Int×Int))(p:Int)(v:Value)(w:World)(hv:RP w v l):gS 138 #[v,.int .i64 p] w (.int .i64 (qdL l p:Nat)):=by
 have HV:=hI_ hv;have hm:=hv.len;obtain⟨A,c,rfl⟩:=hv.sl;unfold maxLen at hm;clear hv;go_enter Tryz.func138,Tryz.ntmps138
 go_wp2
 go_loop [5,6] (fun t i=>∃ k:Nat,k≤l.length∧i=.int .i64 k∧t=.int .i64 (qdL (l.take k) p:Nat)) (fun _ i=>l.length-(intOf i).toNat)
 case atStart=>exact⟨0,Nat.zero_le _,rfl,rfl⟩
 case round=>
  obtain⟨k,hk,rfl,rfl⟩:=hrel;by_cases hlt:k<l.length
  · obtain⟨b,o,rfl,hbs,e0,e1⟩:=HV.out.at_ hlt;have HS:=hI_ (qh6 hlt p);have hcl:qdL (l.take k) p≤k:=Nat.le_trans (qfK _ _) (List.length_take_le _ _);have hki:(k:Int)<(l.length:Int):=a_;generalize qdL (l.take k) p=t at*
    generalize l[k]=x at*
    by_cases hx:x.2=p
    · have HX:Hid (qdL (l.take (k+1)) p=t+1):=hI_ bf_;clear HS;go_wp2
      go_round
      case rel=>exact⟨k+1,a_,t_,by rw[HX.out];go_num⟩
      case measure=>simp[intOf];omega
    · have HX:Hid (qdL (l.take (k+1)) p=t):=hI_ al_;clear HS;go_wp2
      go_round
      case rel=>exact⟨k+1,a_,t_,aM_⟩
      case measure=>simp[intOf];omega
  · obtain rfl:k=l.length:=a_;go_wp2
    go_ret;exact⟨rfl,rfl⟩
theorem qcD{l:List (Int×Int)}{p:Int}{n:Nat}(h:Hid (qdL l p=n))(v:Value)(w:World)(hv:RP w v l):gS 138 #[v,.int .i64 p] w (.int .i64 (n:Nat)):=by
 rw[←h.out];exact qip l p v w hv
theorem qkJ(l:List (Int×Int))(a:Int×Int)(v:Value)(w:World)(hv:RP w v l):gV 136 #[v,.agg #[.int .i64 a.1,.int .i64 a.2]] w (.bool (qc8 l a)):=by
 obtain⟨W0,HW0⟩:=nm_ (w.alloc (.cells #[.int .i64 a.1,.int .i64 a.2] 109));have HB0:Hid (bB w W0):=hI_ q_;have hp:W0.heap[w.heap.size]? =some (.cells #[.int .i64 a.1,.int .i64 a.2] 109 (0,0)):=by rw[←HW0.out];exact heap_alloc_new w _
 have lp:=(Array.getElem?_eq_some_iff.1 hp).1;have p0:W0.cell? ⟨w.heap.size,0,none⟩=some (.int .i64 a.1):=cell_of_row _ _ 0 _ _ _ hp;have p1:W0.cell? ⟨w.heap.size,1,none⟩=some (.int .i64 a.2):=cell_of_row _ _ 1 _ _ _ hp;have HP0:=hI_ p0;have HP1:=hI_ p1;have HV:=hI_ (hv.below HB0.out);have hm:=hv.len;obtain⟨A,c,rfl⟩:=hv.sl;unfold maxLen at hm;clear hv hp p0 p1;go_enter Tryz.func136,Tryz.ntmps136
 go_wp2
 rw[HW0.out];go_loopw [5] (fun i wr=>∃ k:Nat,k≤l.length∧i=.int .i64 k∧qc8 (l.take k) a=false∧bB W0 wr) (fun i _=>l.length-(intOf i).toNat)
 case atStart=>exact⟨0,Nat.zero_le _,rfl,rfl,bR_ _ _⟩
 case round=>
  obtain⟨k,hk,rfl,hno,hbw⟩:=hrel;have HNO:=hI_ hno;clear hno;by_cases hlt:k<l.length
  · obtain⟨b,o,rfl,hbs,e0,e1⟩:=(HV.out.below hbw).at_ hlt;have p0:=(hbw.cell (p:=⟨w.heap.size,0,none⟩) lp).trans HP0.out;have p1:=(hbw.cell (p:=⟨w.heap.size,1,none⟩) lp).trans HP1.out;have lpr:=nL_ lp hbw.size;have HS:=hI_ (qfQ hlt a);have HAT:Hid ((l[k].1==a.1&&l[k].2==a.2)=true→qc8 l a=true):=hI_ (qjo hlt);have hki:(k:Int)<(l.length:Int):=a_;have hk0:(0:Int)≤(k:Int):=a_;have HBW:=hI_ hbw;clear hbw;generalize l[k]=x at*
    obtain⟨r,HR⟩:=nm_ ((x.1==a.1&&x.2==a.2));have heq:∀ w:World,(binOp .eql 109 (.agg #[.int .i64 x.1,.int .i64 x.2]) (.agg #[.int .i64 a.1,.int .i64 a.2])).run Tryz.prog w=.ok (.bool r) w:=fun w=>by rw[qgc,HR.out]
    have hup:=qap wr;cases r
    · go_wp2
      refine qoH ?_;repeat(go_big_quiet_step (fail))
      refine wq_ fun w1 hb1=>?_;clear hup heq;go_wp2
      go_roundw
      case rel=>exact⟨k+1,a_,t_,by rw[HS.out,HNO.out,HR.out];rfl,HBW.out.trans (hb1.mono HBW.out.size)⟩
      case measure=>simp[intOf];omega
    · go_wp2
      refine qoH ?_;repeat(go_big_quiet_step (fail))
      refine wq_ fun w1 hb1=>?_;clear hup heq;go_wp2
      go_ret;exact⟨qaM (HAT.out HR.out).symm,HB0.out.trans ((HBW.out.trans (hb1.mono HBW.out.size)).mono HB0.out.size)⟩
  · obtain rfl:k=l.length:=a_;have hno:=HNO.out;rw[List.take_length] at hno;have HNO':=hI_ hno;clear hno;have HBW:=hI_ hbw;clear hbw;go_wp2
    go_ret;exact⟨qaM HNO'.out.symm,HB0.out.trans (HBW.out.mono HB0.out.size)⟩
theorem qbL{l:List (Int×Int)}{a:Int×Int}{b:Bool}(h:Hid (qc8 l a=b))(v:Value)(w:World)(hv:RP w v l):gV 136 #[v,.agg #[.int .i64 a.1,.int .i64 a.2]] w (.bool b):=by
 rw[←h.out];exact qkJ l a v w hv
theorem qdE{l:List (Int×Int)}{k:Nat}(h:k<l.length)(hp:qh1 l k=false):qaG l=false:=qdi h hp
theorem qhf(l:List (Int×Int))(v:Value)(w:World)(hv:RP w v l):gV 60 #[v] w (.bool (qaG l)):=by
 have HV:=hI_ hv;have hm:=hv.len;obtain⟨A,c,rfl⟩:=hv.sl;unfold maxLen at hm;have hcap:l.length≤c∧c≤9223372036854775807:=by
  obtain⟨_,_,h0,h1,h2,_⟩:=hv;cases h0
  unfold maxLen at h2;exact⟨h1.1,h2⟩
 obtain⟨hc1,hc2⟩:=hcap;clear hv;go_enter Tryz.func60,Tryz.ntmps60
 go_wp2
 go_loopw [3] (fun i wr=>∃ k:Nat,k≤l.length∧i=.int .i64 k∧qdv k (qh1 l)=true∧bB w wr) (fun i _=>l.length-(intOf i).toNat)
 case atStart=>exact⟨0,Nat.zero_le _,rfl,qb9,bR_ _ _⟩
 case round=>
  obtain⟨k,hk,rfl,hno,hbw⟩:=hrel;have HNO:=hI_ hno;clear hno;have HBW:=hI_ hbw;clear hbw;by_cases hlt:k<l.length
  · obtain⟨b,o,rfl,hbs,e0,e1⟩:=(HV.out.below HBW.out).at_ hlt;have HL:=hI_ (HV.out.below HBW.out);have HT:=hI_ (HL.out.take (m:=k) a_);have hki:(k:Int)<(l.length:Int):=a_;have hk0:(0:Int)≤(k:Int):=a_;have hkc:k≤c:=a_;obtain⟨b1,H1⟩:=nm_ (qcB l[k]);obtain⟨b2,H2⟩:=nm_ (qc8 (l.take k) l[k]);obtain⟨n3,H3⟩:=nm_ (qcX l l[k].1);obtain⟨n4,H4⟩:=nm_ (qdL l l[k].2);have HAT:Hid (qh1 l k=(b1&& !b2&&decide (n3≤3)&&decide (n4≤2))):=hI_ (by unfold qh1;rw[qam hlt,H1.out,H2.out,H3.out,H4.out]);have hn3:n3≤l.length:=by rw[←H3.out];exact qfL _ _
    have hn4:n4≤l.length:=by rw[←H4.out];exact qfK _ _
    generalize l[k]=x at*
    have hup:=qap wr;cases b1
    · go_wp2
      refine qoH ?_;repeat(go_big_quiet_step (first
       |(go_at_call 135;exact qal (qcJ H1 _))
       |(go_at_call 136;exact qal (qbL H2 _ _ (HT.out.up _)))
       |(go_at_call 137;exact qaj (qc2 H3 _ _ (HL.out.up _)))
       |(go_at_call 138;exact qaj (qcD H4 _ _ (HL.out.up _)))))
      refine wq_ fun w1 hb1=>?_;clear hup;go_wp2
      go_ret;exact⟨qaM (qdE hlt aP_).symm,HBW.out.trans (hb1.mono HBW.out.size)⟩
    cases b2
    case true=>
     go_wp2
     refine qoH ?_;repeat(go_big_quiet_step (first
      |(go_at_call 135;exact qal (qcJ H1 _))
      |(go_at_call 136;exact qal (qbL H2 _ _ (HT.out.up _)))
      |(go_at_call 137;exact qaj (qc2 H3 _ _ (HL.out.up _)))
      |(go_at_call 138;exact qaj (qcD H4 _ _ (HL.out.up _)))))
     refine wq_ fun w1 hb1=>?_;clear hup;go_wp2
     go_ret;exact⟨qaM (qdE hlt aP_).symm,HBW.out.trans (hb1.mono HBW.out.size)⟩
    by_cases h3:n3≤3
    case neg=>
     have h3':(3:Int)<(n3:Int):=a_;go_wp2
     refine qoH ?_;repeat(go_big_quiet_step (first
      |(go_at_call 135;exact qal (qcJ H1 _))
      |(go_at_call 136;exact qal (qbL H2 _ _ (HT.out.up _)))
      |(go_at_call 137;exact qaj (qc2 H3 _ _ (HL.out.up _)))
      |(go_at_call 138;exact qaj (qcD H4 _ _ (HL.out.up _)))))
     refine wq_ fun w1 hb1=>?_;clear hup;go_wp2
     go_ret;exact⟨qaM (qdE hlt (by rw[HAT.out];simp[h3])).symm,HBW.out.trans (hb1.mono HBW.out.size)⟩
    have d3:decide ((3:Int)<(n3:Int))=false:=by rw[decide_eq_false_iff_not];omega
    by_cases h4:n4≤2
    case neg=>
     have h4':(2:Int)<(n4:Int):=a_;go_wp2
     refine qoH ?_;repeat(go_big_quiet_step (first
      |(go_at_call 135;exact qal (qcJ H1 _))
      |(go_at_call 136;exact qal (qbL H2 _ _ (HT.out.up _)))
      |(go_at_call 137;exact qaj (qc2 H3 _ _ (HL.out.up _)))
      |(go_at_call 138;exact qaj (qcD H4 _ _ (HL.out.up _)))))
     refine wq_ fun w1 hb1=>?_;clear hup;go_wp2
     go_ret;exact⟨qaM (qdE hlt (by rw[HAT.out];simp[h4])).symm,HBW.out.trans (hb1.mono HBW.out.size)⟩
    have d4:decide ((2:Int)<(n4:Int))=false:=by rw[decide_eq_false_iff_not];omega
    go_wp2
    refine qoH ?_;repeat(go_big_quiet_step (first
     |(go_at_call 135;exact qal (qcJ H1 _))
     |(go_at_call 136;exact qal (qbL H2 _ _ (HT.out.up _)))
     |(go_at_call 137;exact qaj (qc2 H3 _ _ (HL.out.up _)))
     |(go_at_call 138;exact qaj (qcD H4 _ _ (HL.out.up _)))))
    refine wq_ fun w1 hb1=>?_;clear hup;go_wp2
    go_roundw
    case rel=>exact⟨k+1,a_,t_,qbh HNO.out (by rw[HAT.out];simp[h3,h4]),HBW.out.trans (hb1.mono HBW.out.size)⟩
    case measure=>simp[intOf];omega
  · obtain rfl:k=l.length:=a_;go_wp2
    go_ret;exact⟨qaM HNO.out.symm,HBW.out⟩
theorem qaL{l:List (Int×Int)}{b:Bool}(h:Hid (qaG l=b))(v:Value)(w:World)(hv:RP w v l):gV 60 #[v] w (.bool b):=by
 rw[←h.out];exact qhf l v w hv
theorem qjy(l m:List Int)(v u:Value)(w:World)(hv:RI w v l)(hu:RI w u m):gV 139 #[v,u] w (.bool (l==m)):=by
 have HV:=hI_ hv;have HU:=hI_ hu;have hm:=hv.len;have hm2:=hu.len;obtain⟨A,c,rfl,-,-,-⟩:=hv;obtain⟨A2,c2,rfl,-,-,-⟩:=hu;unfold maxLen at hm hm2;by_cases hne:l.length=m.length
 case neg=>
  have hn1:((l.length:Int)!=(m.length:Int))=true:=by simp;omega
  have HF:Hid ((l==m)=false):=hI_ (by rw[beq_eq_false_iff_ne];intro e;exact hne (by rw[e]));go_enter Tryz.func139,Tryz.ntmps139
  go_wp2
  go_ret;exact⟨qaM HF.out.symm,bR_ _ _⟩
 have hn1:((l.length:Int)!=(m.length:Int))=false:=by simp;omega
 have HNE:=hI_ hne;clear hne;go_enter Tryz.func139,Tryz.ntmps139
 go_wp2
 go_loopw [5] (fun i wr=>∃ k:Nat,k≤l.length∧i=.int .i64 k∧l.take k=m.take k∧bB w wr) (fun i _=>l.length-(intOf i).toNat)
 case atStart=>exact⟨0,Nat.zero_le _,rfl,rfl,bR_ _ _⟩
 case round=>
  obtain⟨k,hk,rfl,hno,hbw⟩:=hrel;have HNO:=hI_ hno;clear hno;have HBW:=hI_ hbw;clear hbw;by_cases hlt:k<l.length
  · have hlt2:k<m.length:=by have:=HNE.out;omega
    obtain⟨_,_,hA,_,_,hc⟩:=HV.out.below HBW.out;cases hA;obtain⟨b,o,rfl,hbs,hc⟩:=hc a_;have e1:=hc k hlt;obtain⟨_,_,hA,_,_,hc2⟩:=HU.out.below HBW.out;cases hA;obtain⟨b',o',rfl,hbs',hc2⟩:=hc2 a_;have e2:=hc2 k hlt2;clear hc hc2;have hki:(k:Int)<(l.length:Int):=a_;have hki2:(k:Int)<(m.length:Int):=a_;have hk0:(0:Int)≤(k:Int):=a_;have HY:Hid (l[k]=m[k]→l.take (k+1)=m.take (k+1)):=hI_ (fun h=>by rw[qaZ hlt,qaZ hlt2,HNO.out,h]);have HN:Hid (l[k]≠m[k]→(l==m)=false):=hI_ (fun h=>by rw[beq_eq_false_iff_ne];intro e;subst e;exact h rfl);generalize l[k]=x at*
    generalize m[k]=y at*
    have hup:=qap wr;by_cases hxy:x=y
    · have hxy':(x !=y)=false:=by simp[hxy]
      go_wp2
      refine qoH ?_;repeat(go_big_quiet_step (fail))
      refine wq_ fun w1 hb1=>?_;clear hup;go_wp2
      go_roundw
      case rel=>exact⟨k+1,a_,t_,HY.out hxy,HBW.out.trans (hb1.mono HBW.out.size)⟩
      case measure=>simp[intOf];omega
    · have hxy':(x !=y)=true:=by simp[hxy]
      have HXY:=hI_ hxy;clear hxy;go_wp2
      refine qoH ?_;repeat(go_big_quiet_step (fail))
      refine wq_ fun w1 hb1=>?_;clear hup;go_wp2
      go_ret;exact⟨qaM (HN.out HXY.out).symm,HBW.out.trans (hb1.mono HBW.out.size)⟩
  · obtain rfl:k=l.length:=a_;have HQ:Hid ((l==m)=true):=hI_ (by rw[beq_iff_eq];have h:=HNO.out;rw[List.take_length,HNE.out,List.take_length] at h;exact h);go_wp2
    go_ret;exact⟨qaM HQ.out.symm,HBW.out⟩
theorem qmR(bl:List ByteArray)(n:Nat):lvs (bl.take n)=(lvs bl).take n:=by simp[lvs,List.map_take]
theorem qa6.at0{w:World}{A:Option Addr}{n c:Nat}{fs:List Fd}(h:qa6 w (.slice A n c) fs)(hj:0<fs.length):
 ∃ b o x y,A=some ⟨b,o,none⟩∧b<w.heap.size∧w.cell? ⟨b,o,none⟩=some (.int .i64 (fs.getD 0 Fd.none).pub)∧w.cell? ⟨b,o+1,none⟩=some (.int .i64 (fs.getD 0 Fd.none).hd.len)∧w.cell? ⟨b,o+2,none⟩=some (.int .i64 (fs.getD 0 Fd.none).hd.dg)∧w.cell? ⟨b,o+3,none⟩=some (.int .i64 (fs.getD 0 Fd.none).hd.sg)∧w.cell? ⟨b,o+4,none⟩=some x∧w.cell? ⟨b,o+5,none⟩=some y∧qaU w (fs.getD 0 Fd.none) x y:=by
 obtain⟨b,o,x,y,h1,h2,h3⟩:=h.at_ hj;rw[Nat.zero_mul,Nat.add_zero] at h3;rw[qam hj];exact⟨b,o,x,y,h1,h2,h3⟩
theorem qc3(fs:List Fd)(n:Nat)(s b:Int)(vF vL vA vN:Value)(w:World)(hF:qa6 w vF fs)(h0:0<fs.length)(hn:n≤(fs.getD 0 Fd.none).bl.length)(h16:(fs.getD 0 Fd.none).bl.length≤16)(hs:∀ t ∈ (fs.getD 0 Fd.none).bl,t.size≤8):
 Calls Tryz.prog 134 #[.agg #[.int .i64 s,.int .i64 b,vF,vL,vA,vN],.int .i64 n] w fun e w'=>∃ v',e=.returned v'∧O1 (Value.int .i64) w.heap.size 3 w' v' ((lvs (fs.getD 0 Fd.none).bl).take n)∧bB w w':=by
 obtain⟨W0,HW0⟩:=nm_ (w.alloc (.cells #[.int .i64 s,.int .i64 b,vF,vL,vA,vN] 28));have HB0:Hid (bB w W0):=hI_ q_;obtain⟨A,c,rfl⟩:=hF.sl;have hp:W0.heap[w.heap.size]? =some (.cells #[.int .i64 s,.int .i64 b,.slice A fs.length c,vL,vA,vN] 28 (0,0)):=by rw[←HW0.out];exact heap_alloc_new w _
 obtain⟨b0,o,x,y,rfl,hbs,c0,c1,c2,c3,c4,c5,c6⟩:=(hF.below HB0.out).at0 h0;obtain⟨p0,p1,p2,p3,p4,p5,pf⟩:=qaa hp;have hm:=hF.len;unfold maxLen at hm;generalize fs.getD 0 Fd.none=f at*
 have h0i:(0:Int)<(fs.length:Int):=a_;have HT:=c6.bl;obtain⟨xA,xc,rfl⟩:=HT.sl';have hcap:f.bl.length≤xc∧xc≤9223372036854775807:=by
  obtain⟨_,_,e0,h1,h2,_⟩:=HT;cases e0
  unfold maxLen at h2;exact⟨h1.1,h2⟩
 obtain⟨hc1,hc2⟩:=hcap;have hnc:n≤xc:=a_;have HTT:=hI_ (HT.take hn);have HS:=hI_ (fun t ht=>Nat.le_trans (hs t (List.mem_of_mem_take ht)) (by unfold maxLen;omega:8≤maxLen):∀ t ∈ f.bl.take n,t.size≤maxLen);clear HT hF hp c6 hs;rw[←HW0.out] at c4;go_enter Tryz.func134,Tryz.ntmps134
 go_wp2_with fail
 rw[HW0.out];refine(qdC (f.bl.take n) _ W0 HTT.out n_ HS.out).mono ?_;rintro e w1 ⟨v',rfl,ho,hb1⟩;rw[qmR] at ho;go_wp2
 go_ret;exact⟨v',rfl,ho.mono HB0.out.size,HB0.out.trans (hb1.mono HB0.out.size)⟩
theorem qcp{n k:Nat}{l:List (Int×Int)}(h:k<l.length)(hp:qdV n l k=false):qcE n l=false:=qdi h hp
theorem qkK(s b:Int)(n cF:Nat)(AF:Option Addr)(l:List (Int×Int))(vL vA vN:Value)(w:World)(hL:RP w vL l)(hn:n≤maxLen):
 gV 58 #[.agg #[.int .i64 s,.int .i64 b,.slice AF n cF,vL,vA,vN]] w (.bool (qcE n l)):=by
 obtain⟨W0,HW0⟩:=nm_ (w.alloc (.cells #[.int .i64 s,.int .i64 b,.slice AF n cF,vL,vA,vN] 28));have HB0:Hid (bB w W0):=hI_ q_;obtain⟨A,c,rfl⟩:=hL.sl;have hp:W0.heap[w.heap.size]? =some (.cells #[.int .i64 s,.int .i64 b,.slice AF n cF,.slice A l.length c,vA,vN] 28 (0,0)):=by rw[←HW0.out];exact heap_alloc_new w _
 have lp:=(Array.getElem?_eq_some_iff.1 hp).1;have HP:=hI_ hp;have HV:=hI_ (hL.below HB0.out);have hm:=hL.len;unfold maxLen at hm hn;clear hL hp;go_enter Tryz.func58,Tryz.ntmps58
 go_wp2
 rw[HW0.out];go_loopw [3] (fun i wr=>∃ k:Nat,k≤l.length∧i=.int .i64 k∧qdv k (qdV n l)=true∧bB W0 wr) (fun i _=>l.length-(intOf i).toNat)
 case atStart=>exact⟨0,Nat.zero_le _,rfl,qb9,bR_ _ _⟩
 case round=>
  obtain⟨k,hk,rfl,hno,hbw⟩:=hrel;have HNO:=hI_ hno;have HBW:=hI_ hbw;obtain⟨p0,p1,p2,p3,p4,p5,pf⟩:=qaa ((hbw.block _ lp).trans HP.out);have lpr:=nL_ lp hbw.size;clear hno hbw;by_cases hlt:k<l.length
  case neg=>
   obtain rfl:k=l.length:=a_;go_wp2
   go_ret;exact⟨qaM HNO.out.symm,HB0.out.trans (HBW.out.mono HB0.out.size)⟩
  obtain⟨b',o,rfl,hbs,e0,e1⟩:=(HV.out.below HBW.out).at_ hlt;have hki:(k:Int)<(l.length:Int):=a_;have hk0:(0:Int)≤(k:Int):=a_;obtain⟨y,HYE⟩:=nm_ (l[k]);obtain⟨bp,HPR⟩:=nm_ ((k==0||ltL (l.getD (k-1) (0,0)) y));have HAT:Hid (qdV n l k=(inB y.1 0 ((n:Int)-1)&&inB y.2 (y.1+1) ((n:Int)-1)&&bp)):=hI_ (by unfold qdV qc5;rw[qam hlt,HYE.out,HPR.out]);rw[HYE.out] at e0 e1;obtain⟨W1,HW1⟩:=nm_ (wr.alloc (.cells #[.int .i64 y.1,.int .i64 y.2] 99));have HBU:Hid (bB W0 W1):=hI_ aF_;have hq:W1.heap[wr.heap.size]? =some (.cells #[.int .i64 y.1,.int .i64 y.2] 99 (0,0)):=by rw[←HW1.out];exact heap_alloc_new wr _
  have q0:W1.cell? ⟨wr.heap.size,0,none⟩=some (.int .i64 y.1):=cell_of_row _ _ 0 _ _ _ hq;have q1:W1.cell? ⟨wr.heap.size,1,none⟩=some (.int .i64 y.2):=cell_of_row _ _ 1 _ _ _ hq;have lq:wr.heap.size<W1.heap.size:=(Array.getElem?_eq_some_iff.1 hq).1;obtain⟨u0,u1,u2,u3,u4,u5,uf⟩:=qaa ((HBU.out.block _ lp).trans HP.out);have lpu:=nL_ lp HBU.out.size;obtain⟨_,_,hAe,hbs1,f0,f1⟩:=(HV.out.below HBU.out).at_ hlt;cases hAe
  rw[HYE.out] at f0 f1;clear hq;cases h1:inB y.1 0 ((n:Int)-1)
  · rw[h1] at HAT;go_wp2_with (go_at_call 124;refine(qaV _ _ _ _).mono ?_;rintro e w' ⟨rfl,rfl⟩)
    go_ret;exact⟨qaM (qcp hlt aP_).symm,HB0.out.trans ((HBW.out.alloc HBW.out.size _).mono HB0.out.size)⟩
  obtain⟨hy0,hy1⟩:=qak.1 h1;cases h2:inB y.2 (y.1+1) ((n:Int)-1)
  · rw[h1,h2] at HAT;go_wp2_with (go_at_call 124;refine(qaV _ _ _ _).mono ?_;rintro e w' ⟨rfl,rfl⟩)
    go_ret;exact⟨qaM (qcp hlt aP_).symm,HB0.out.trans ((HBW.out.alloc HBW.out.size _).mono HB0.out.size)⟩
  rw[h1,h2] at HAT;go_wp2_with (go_at_call 124;refine(qaV _ _ _ _).mono ?_;rintro e w' ⟨rfl,rfl⟩)
  rw[HW1.out];clear p0 p1 p2 p3 p4 p5 pf e0 e1;have hup:=qap W1;by_cases hk00:k=0
  · subst hk00;go_wp2
    refine qoH ?_;repeat(go_big_quiet_step (fail))
    refine wq_ fun w1 hb1=>?_;clear hup;go_wp2
    go_roundw
    case rel=>exact⟨0+1,a_,t_,qbh HNO.out (by rw[HAT.out,←HPR.out];rfl),HBU.out.trans (hb1.mono HBU.out.size)⟩
    case measure=>simp[intOf];omega
  have hkp:(0:Int)<(k:Int):=a_;have hkn:0<k:=a_;obtain⟨m,hkm⟩:∃ m:Nat,(k:Int)-1=(m:Int):=⟨k-1,a_⟩
  have hmk:m<l.length:=a_;obtain⟨_,_,hAe,_,g0,g1⟩:=(HV.out.below HBU.out).at_ hmk;cases hAe
  have hm0:(0:Int)≤(m:Int):=a_;have hmi:(m:Int)<(l.length:Int):=a_;have HPZ:Hid (bp=ltL l[m] y):=hI_ (by rw[←HPR.out,show k-1=m by omega,qam hmk];simp[hk00]);generalize l[m]=z at*
  by_cases h3:y.1<z.1
  · have HBP:Hid (bp=false):=hI_ aN_;go_wp2
    refine qoH ?_;repeat(go_big_quiet_step (fail))
    refine wq_ fun w1 hb1=>?_;clear hup;go_wp2
    go_ret;exact⟨qaM (qcp hlt a1_).symm,HB0.out.trans ((HBU.out.trans (hb1.mono HBU.out.size)).mono HB0.out.size)⟩
  have d3:decide (y.1<z.1)=false:=by rw[decide_eq_false_iff_not];omega
  by_cases h4:z.1=y.1
  case neg=>
   have HBP:Hid (bp=true):=hI_ aN_;have d4:(z.1==y.1)=false:=by rw[beq_eq_false_iff_ne];exact h4
   go_wp2
   refine qoH ?_;repeat(go_big_quiet_step (fail))
   refine wq_ fun w1 hb1=>?_;clear hup;go_wp2
   go_roundw
   case rel=>exact⟨k+1,a_,t_,qbh HNO.out a1_,HBU.out.trans (hb1.mono HBU.out.size)⟩
   case measure=>simp[intOf];omega
  by_cases h5:y.2≤z.2
  · have HBP:Hid (bp=false):=hI_ aN_;go_wp2
    refine qoH ?_;repeat(go_big_quiet_step (fail))
    refine wq_ fun w1 hb1=>?_;clear hup;go_wp2
    go_ret;exact⟨qaM (qcp hlt a1_).symm,HB0.out.trans ((HBU.out.trans (hb1.mono HBU.out.size)).mono HB0.out.size)⟩
  have d5:decide (y.2≤z.2)=false:=by rw[decide_eq_false_iff_not];omega
  have HBP:Hid (bp=true):=hI_ aN_;go_wp2
  refine qoH ?_;repeat(go_big_quiet_step (fail))
  refine wq_ fun w1 hb1=>?_;clear hup;go_wp2
  go_roundw
  case rel=>exact⟨k+1,a_,t_,qbh HNO.out a1_,HBU.out.trans (hb1.mono HBU.out.size)⟩
  case measure=>simp[intOf];omega
end Go.Proofs.YtekaaekpdebloaaGreatDoor

/- Words and walks of the law. -/
import Derived.Test.YtekaaekpdebloaaGreatDoorBK
set_option linter.unusedVariables false
set_option linter.unusedSimpArgs false
namespace Go.Proofs.YtekaaekpdebloaaGreatDoor
open Go.RowKit

theorem qfV:(Tryz.prog.info? 99).map (fun i=>(i.zero,i.size,i.bytes))=some (some (.agg #[.int .i64 0,.int .i64 0]),2,16):=by kernel_rfl
theorem qhs:(Tryz.prog.info? 109).map (fun i=>(i.zero,i.size,i.bytes))=some (some (.agg #[.int .i64 0,.int .i64 0]),2,16):=by kernel_rfl
theorem qd8:(Tryz.prog.info? 57).map (fun i=>(i.zero,i.size,i.bytes))=some (some (.agg #[.int .i64 0,.int .i64 0,.int .i64 0,.int .i64 0,.string ⟨#[]⟩,.slice none 0 0]),6,72):=by kernel_rfl
section
variable {B C:Nat} {e:TypeId} {w:World} {v:Value} {p:Addr}
end
theorem qgc(a1 a2 b1 b2:Int)(w:World):
 (binOp .eql 109 (.agg #[.int .i64 a1,.int .i64 a2]) (.agg #[.int .i64 b1,.int .i64 b2])).run Tryz.prog w=.ok (.bool (a1==b1&&a2==b2)) w:=by
 rw[run_eql_struct,run_equalIn_agg _ _ _ _ _ d_ d_];by_cases h1:a1=b1 <;> by_cases h2:a2=b2 <;> simp[go_sem,h1,h2]
theorem qkI(x:Int×Int)(w:World):Calls Tryz.prog 135 #[.agg #[.int .i64 x.1,.int .i64 x.2]] w fun e w'=>e=.returned (.bool (qcB x))∧Below w.heap.size w w':=by
 cases h1:inB x.1 0 5
 · have hb:=(bR_ w.heap.size w).alloc (nr_ _) (.cells #[.int .i64 x.1,.int .i64 x.2] 109);have HB:=hI_ hb;clear hb;go_enter Tryz.func135,Tryz.ntmps135
   go_wp2_with (go_at_call 124;refine(qaV _ _ _ _).mono ?_;rintro e w' ⟨rfl,rfl⟩)
   go_ret;exact⟨qaM (by unfold qcB;rw[h1];rfl),HB.out⟩
 · have hb:=(bR_ w.heap.size w).alloc (nr_ _) (.cells #[.int .i64 x.1,.int .i64 x.2] 109);have HB:=hI_ hb;clear hb;go_enter Tryz.func135,Tryz.ntmps135
   go_wp2_with (go_at_call 124;refine(qaV _ _ _ _).mono ?_;rintro e w' ⟨rfl,rfl⟩)
   go_ret;exact⟨qaM (by unfold qcB;rw[h1,Bool.true_and]),HB.out⟩
theorem qcJ{x:Int×Int}{b:Bool}(h:Hid (qcB x=b))(w:World):Calls Tryz.prog 135 #[.agg #[.int .i64 x.1,.int .i64 x.2]] w fun e w'=>e=.returned (.bool b)∧Below w.heap.size w w':=by
 rw[←h.out];exact qkI x w
theorem qjs(l:List (Int×Int))(p:Int)(v:Value)(w:World)(hv:RP w v l):Calls Tryz.prog 137 #[v,.int .i64 p] w fun e w'=>e=.returned (.int .i64 (qcX l p:Nat))∧w=w':=by
 have HV:=hI_ hv;have hm:=hv.len;obtain⟨A,c,rfl⟩:=hv.sl;unfold maxLen at hm;clear hv;go_enter Tryz.func137,Tryz.ntmps137
 go_wp2
 go_loop [5,6] (fun t i=>∃ k:Nat,k≤l.length∧i=.int .i64 k∧t=.int .i64 (qcX (l.take k) p:Nat)) (fun _ i=>l.length-(intOf i).toNat)
 case atStart=>exact⟨0,Nat.zero_le _,rfl,rfl⟩
 case round=>
  obtain⟨k,hk,rfl,rfl⟩:=hrel;by_cases hlt:k<l.length
  · obtain⟨b,o,rfl,hbs,e0,e1⟩:=HV.out.at_ hlt;have HS:=hI_ (qh7 hlt p);have hcl:qcX (l.take k) p≤k:=Nat.le_trans (qfL _ _) (List.length_take_le _ _);have hki:(k:Int)<(l.length:Int):=a_;generalize qcX (l.take k) p=t at*
    generalize l[k]=x at*
    by_cases hx:x.1=p
    · have HX:Hid (qcX (l.take (k+1)) p=t+1):=hI_ bf_;clear HS;go_wp2
      go_round
      case rel=>exact⟨k+1,a_,t_,by rw[HX.out];go_num⟩
      case measure=>simp[intOf];omega
    · have HX:Hid (qcX (l.take (k+1)) p=t):=hI_ al_;clear HS;go_wp2
      go_round
      case rel=>exact⟨k+1,a_,t_,aM_⟩
      case measure=>simp[intOf];omega
  · obtain rfl:k=l.length:=a_;go_wp2
    go_ret;exact⟨rfl,rfl⟩
theorem qc2{l:List (Int×Int)}{p:Int}{n:Nat}(h:Hid (qcX l p=n))(v:Value)(w:World)(hv:RP w v l):Calls Tryz.prog 137 #[v,.int .i64 p] w fun e w'=>e=.returned (.int .i64 (n:Nat))∧w=w':=by
 rw[←h.out];exact qjs l p v w hv
theorem qip(l:List (Int×Int))(p:Int)(v:Value)(w:World)(hv:RP w v l):Calls Tryz.prog 138 #[v,.int .i64 p] w fun e w'=>e=.returned (.int .i64 (qdL l p:Nat))∧w=w':=by
 have HV:=hI_ hv;have hm:=hv.len;obtain⟨A,c,rfl⟩:=hv.sl;unfold maxLen at hm;clear hv;go_enter Tryz.func138,Tryz.ntmps138
 go_wp2
 go_loop [5,6] (fun t i=>∃ k:Nat,k≤l.length∧i=.int .i64 k∧t=.int .i64 (qdL (l.take k) p:Nat)) (fun _ i=>l.length-(intOf i).toNat)
 case atStart=>exact⟨0,Nat.zero_le _,rfl,rfl⟩
 case round=>
  obtain⟨k,hk,rfl,rfl⟩:=hrel;by_cases hlt:k<l.length
  · obtain⟨b,o,rfl,hbs,e0,e1⟩:=HV.out.at_ hlt;have HS:=hI_ (qh6 hlt p);have hcl:qdL (l.take k) p≤k:=Nat.le_trans (qfK _ _) (List.length_take_le _ _);have hki:(k:Int)<(l.length:Int):=a_;generalize qdL (l.take k) p=t at*
    generalize l[k]=x at*
    by_cases hx:x.2=p
    · have HX:Hid (qdL (l.take (k+1)) p=t+1):=hI_ bf_;clear HS;go_wp2
      go_round
      case rel=>exact⟨k+1,a_,t_,by rw[HX.out];go_num⟩
      case measure=>simp[intOf];omega
    · have HX:Hid (qdL (l.take (k+1)) p=t):=hI_ al_;clear HS;go_wp2
      go_round
      case rel=>exact⟨k+1,a_,t_,aM_⟩
      case measure=>simp[intOf];omega
  · obtain rfl:k=l.length:=a_;go_wp2
    go_ret;exact⟨rfl,rfl⟩
theorem qcD{l:List (Int×Int)}{p:Int}{n:Nat}(h:Hid (qdL l p=n))(v:Value)(w:World)(hv:RP w v l):Calls Tryz.prog 138 #[v,.int .i64 p] w fun e w'=>e=.returned (.int .i64 (n:Nat))∧w=w':=by
 rw[←h.out];exact qip l p v w hv
set_option maxHeartbeats 800000 in
theorem qkJ(l:List (Int×Int))(a:Int×Int)(v:Value)(w:World)(hv:RP w v l):Calls Tryz.prog 136 #[v,.agg #[.int .i64 a.1,.int .i64 a.2]] w fun e w'=>e=.returned (.bool (qc8 l a))∧Below w.heap.size w w':=by
 obtain⟨W0,HW0⟩:=nm_ (w.alloc (.cells #[.int .i64 a.1,.int .i64 a.2] 109));have HB0:Hid (Below w.heap.size w W0):=hI_ q_;have hp:W0.heap[w.heap.size]? =some (.cells #[.int .i64 a.1,.int .i64 a.2] 109 (0,0)):=by rw[←HW0.out];exact heap_alloc_new w _
 have lp:=(Array.getElem?_eq_some_iff.1 hp).1;have p0:W0.cell? ⟨w.heap.size,0,none⟩=some (.int .i64 a.1):=cell_of_row _ _ 0 _ _ _ hp;have p1:W0.cell? ⟨w.heap.size,1,none⟩=some (.int .i64 a.2):=cell_of_row _ _ 1 _ _ _ hp;have HP0:=hI_ p0;have HP1:=hI_ p1;have HV:=hI_ (hv.below HB0.out);have hm:=hv.len;obtain⟨A,c,rfl⟩:=hv.sl;unfold maxLen at hm;clear hv hp p0 p1;go_enter Tryz.func136,Tryz.ntmps136
 go_wp2
 rw[HW0.out];go_loopw [5] (fun i wr=>∃ k:Nat,k≤l.length∧i=.int .i64 k∧qc8 (l.take k) a=false∧Below W0.heap.size W0 wr) (fun i _=>l.length-(intOf i).toNat)
 case atStart=>exact⟨0,Nat.zero_le _,rfl,rfl,bR_ _ _⟩
 case round=>
  obtain⟨k,hk,rfl,hno,hbw⟩:=hrel;have HNO:=hI_ hno;clear hno;by_cases hlt:k<l.length
  · obtain⟨b,o,rfl,hbs,e0,e1⟩:=(HV.out.below hbw).at_ hlt;have p0:=(hbw.cell (p:=⟨w.heap.size,0,none⟩) lp).trans HP0.out;have p1:=(hbw.cell (p:=⟨w.heap.size,1,none⟩) lp).trans HP1.out;have lpr:=nL_ lp hbw.size;have HS:=hI_ (qfQ hlt a);have HAT:Hid ((l[k].1==a.1&&l[k].2==a.2)=true→qc8 l a=true):=hI_ (qjo hlt);have hki:(k:Int)<(l.length:Int):=a_;have hk0:(0:Int)≤(k:Int):=a_;have HBW:=hI_ hbw;clear hbw;generalize l[k]=x at*
    obtain⟨r,HR⟩:=nm_ ((x.1==a.1&&x.2==a.2));have heq:∀ w:World,(binOp .eql 109 (.agg #[.int .i64 x.1,.int .i64 x.2]) (.agg #[.int .i64 a.1,.int .i64 a.2])).run Tryz.prog w=.ok (.bool r) w:=fun w=>by rw[qgc,HR.out]
    have hup:=qap wr;cases r
    · go_wp2
      refine qoH ?_;repeat(go_big_quiet_step (fail))
      refine wq_ fun w1 hb1=>?_;clear hup heq;go_wp2
      go_roundw
      case rel=>exact⟨k+1,a_,t_,by rw[HS.out,HNO.out,HR.out];rfl,HBW.out.trans (hb1.mono HBW.out.size)⟩
      case measure=>simp[intOf];omega
    · go_wp2
      refine qoH ?_;repeat(go_big_quiet_step (fail))
      refine wq_ fun w1 hb1=>?_;clear hup heq;go_wp2
      go_ret;exact⟨qaM (HAT.out HR.out).symm,HB0.out.trans ((HBW.out.trans (hb1.mono HBW.out.size)).mono HB0.out.size)⟩
  · obtain rfl:k=l.length:=a_;have hno:=HNO.out;rw[List.take_length] at hno;have HNO':=hI_ hno;clear hno;have HBW:=hI_ hbw;clear hbw;go_wp2
    go_ret;exact⟨qaM HNO'.out.symm,HB0.out.trans (HBW.out.mono HB0.out.size)⟩
theorem qbL{l:List (Int×Int)}{a:Int×Int}{b:Bool}(h:Hid (qc8 l a=b))(v:Value)(w:World)(hv:RP w v l):Calls Tryz.prog 136 #[v,.agg #[.int .i64 a.1,.int .i64 a.2]] w fun e w'=>e=.returned (.bool b)∧Below w.heap.size w w':=by
 rw[←h.out];exact qkJ l a v w hv
theorem qdE{l:List (Int×Int)}{k:Nat}(h:k<l.length)(hp:qh1 l k=false):qaG l=false:=qdi h hp
set_option maxHeartbeats 1600000 in
theorem qhf(l:List (Int×Int))(v:Value)(w:World)(hv:RP w v l):Calls Tryz.prog 60 #[v] w fun e w'=>e=.returned (.bool (qaG l))∧Below w.heap.size w w':=by
 have HV:=hI_ hv;have hm:=hv.len;obtain⟨A,c,rfl⟩:=hv.sl;unfold maxLen at hm;have hcap:l.length≤c∧c≤9223372036854775807:=by
  obtain⟨_,_,h0,h1,h2,_⟩:=hv;cases h0
  unfold maxLen at h2;exact⟨h1.1,h2⟩
 obtain⟨hc1,hc2⟩:=hcap;clear hv;go_enter Tryz.func60,Tryz.ntmps60
 go_wp2
 go_loopw [3] (fun i wr=>∃ k:Nat,k≤l.length∧i=.int .i64 k∧qdv k (qh1 l)=true∧Below w.heap.size w wr) (fun i _=>l.length-(intOf i).toNat)
 case atStart=>exact⟨0,Nat.zero_le _,rfl,qb9,bR_ _ _⟩
 case round=>
  obtain⟨k,hk,rfl,hno,hbw⟩:=hrel;have HNO:=hI_ hno;clear hno;have HBW:=hI_ hbw;clear hbw;by_cases hlt:k<l.length
  · obtain⟨b,o,rfl,hbs,e0,e1⟩:=(HV.out.below HBW.out).at_ hlt;have HL:=hI_ (HV.out.below HBW.out);have HT:=hI_ (HL.out.take (m:=k) a_);have hki:(k:Int)<(l.length:Int):=a_;have hk0:(0:Int)≤(k:Int):=a_;have hkc:k≤c:=a_;obtain⟨b1,H1⟩:=nm_ (qcB l[k]);obtain⟨b2,H2⟩:=nm_ (qc8 (l.take k) l[k]);obtain⟨n3,H3⟩:=nm_ (qcX l l[k].1);obtain⟨n4,H4⟩:=nm_ (qdL l l[k].2);have HAT:Hid (qh1 l k=(b1&& !b2&&decide (n3≤3)&&decide (n4≤2))):=hI_ (by unfold qh1;rw[qam hlt,H1.out,H2.out,H3.out,H4.out]);have hn3:n3≤l.length:=by rw[←H3.out];exact qfL _ _
    have hn4:n4≤l.length:=by rw[←H4.out];exact qfK _ _
    generalize l[k]=x at*
    have hup:=qap wr;cases b1
    · go_wp2
      refine qoH ?_;repeat(go_big_quiet_step (first
       |(go_at_call 135;exact qal (qcJ H1 _))
       |(go_at_call 136;exact qal (qbL H2 _ _ (HT.out.up _)))
       |(go_at_call 137;exact qaj (qc2 H3 _ _ (HL.out.up _)))
       |(go_at_call 138;exact qaj (qcD H4 _ _ (HL.out.up _)))))
      refine wq_ fun w1 hb1=>?_;clear hup;go_wp2
      go_ret;exact⟨qaM (qdE hlt aP_).symm,HBW.out.trans (hb1.mono HBW.out.size)⟩
    cases b2
    case true=>
     go_wp2
     refine qoH ?_;repeat(go_big_quiet_step (first
      |(go_at_call 135;exact qal (qcJ H1 _))
      |(go_at_call 136;exact qal (qbL H2 _ _ (HT.out.up _)))
      |(go_at_call 137;exact qaj (qc2 H3 _ _ (HL.out.up _)))
      |(go_at_call 138;exact qaj (qcD H4 _ _ (HL.out.up _)))))
     refine wq_ fun w1 hb1=>?_;clear hup;go_wp2
     go_ret;exact⟨qaM (qdE hlt aP_).symm,HBW.out.trans (hb1.mono HBW.out.size)⟩
    by_cases h3:n3≤3
    case neg=>
     have h3':(3:Int)<(n3:Int):=a_;go_wp2
     refine qoH ?_;repeat(go_big_quiet_step (first
      |(go_at_call 135;exact qal (qcJ H1 _))
      |(go_at_call 136;exact qal (qbL H2 _ _ (HT.out.up _)))
      |(go_at_call 137;exact qaj (qc2 H3 _ _ (HL.out.up _)))
      |(go_at_call 138;exact qaj (qcD H4 _ _ (HL.out.up _)))))
     refine wq_ fun w1 hb1=>?_;clear hup;go_wp2
     go_ret;exact⟨qaM (qdE hlt (by rw[HAT.out];simp[h3])).symm,HBW.out.trans (hb1.mono HBW.out.size)⟩
    have d3:decide ((3:Int)<(n3:Int))=false:=by rw[decide_eq_false_iff_not];omega
    by_cases h4:n4≤2
    case neg=>
     have h4':(2:Int)<(n4:Int):=a_;go_wp2
     refine qoH ?_;repeat(go_big_quiet_step (first
      |(go_at_call 135;exact qal (qcJ H1 _))
      |(go_at_call 136;exact qal (qbL H2 _ _ (HT.out.up _)))
      |(go_at_call 137;exact qaj (qc2 H3 _ _ (HL.out.up _)))
      |(go_at_call 138;exact qaj (qcD H4 _ _ (HL.out.up _)))))
     refine wq_ fun w1 hb1=>?_;clear hup;go_wp2
     go_ret;exact⟨qaM (qdE hlt (by rw[HAT.out];simp[h4])).symm,HBW.out.trans (hb1.mono HBW.out.size)⟩
    have d4:decide ((2:Int)<(n4:Int))=false:=by rw[decide_eq_false_iff_not];omega
    go_wp2
    refine qoH ?_;repeat(go_big_quiet_step (first
     |(go_at_call 135;exact qal (qcJ H1 _))
     |(go_at_call 136;exact qal (qbL H2 _ _ (HT.out.up _)))
     |(go_at_call 137;exact qaj (qc2 H3 _ _ (HL.out.up _)))
     |(go_at_call 138;exact qaj (qcD H4 _ _ (HL.out.up _)))))
    refine wq_ fun w1 hb1=>?_;clear hup;go_wp2
    go_roundw
    case rel=>exact⟨k+1,a_,t_,qbh HNO.out (by rw[HAT.out];simp[h3,h4]),HBW.out.trans (hb1.mono HBW.out.size)⟩
    case measure=>simp[intOf];omega
  · obtain rfl:k=l.length:=a_;go_wp2
    go_ret;exact⟨qaM HNO.out.symm,HBW.out⟩
theorem qaL{l:List (Int×Int)}{b:Bool}(h:Hid (qaG l=b))(v:Value)(w:World)(hv:RP w v l):Calls Tryz.prog 60 #[v] w fun e w'=>e=.returned (.bool b)∧Below w.heap.size w w':=by
 rw[←h.out];exact qhf l v w hv
set_option maxHeartbeats 800000 in
theorem qjy(l m:List Int)(v u:Value)(w:World)(hv:RI w v l)(hu:RI w u m):Calls Tryz.prog 139 #[v,u] w fun e w'=>e=.returned (.bool (l==m))∧Below w.heap.size w w':=by
 have HV:=hI_ hv;have HU:=hI_ hu;have hm:=hv.len;have hm2:=hu.len;obtain⟨A,c,rfl,-,-,-⟩:=hv;obtain⟨A2,c2,rfl,-,-,-⟩:=hu;unfold maxLen at hm hm2;by_cases hne:l.length=m.length
 case neg=>
  have hn1:((l.length:Int)!=(m.length:Int))=true:=by simp;omega
  have HF:Hid ((l==m)=false):=hI_ (by rw[beq_eq_false_iff_ne];intro e;exact hne (by rw[e]));go_enter Tryz.func139,Tryz.ntmps139
  go_wp2
  go_ret;exact⟨qaM HF.out.symm,bR_ _ _⟩
 have hn1:((l.length:Int)!=(m.length:Int))=false:=by simp;omega
 have HNE:=hI_ hne;clear hne;go_enter Tryz.func139,Tryz.ntmps139
 go_wp2
 go_loopw [5] (fun i wr=>∃ k:Nat,k≤l.length∧i=.int .i64 k∧l.take k=m.take k∧Below w.heap.size w wr) (fun i _=>l.length-(intOf i).toNat)
 case atStart=>exact⟨0,Nat.zero_le _,rfl,rfl,bR_ _ _⟩
 case round=>
  obtain⟨k,hk,rfl,hno,hbw⟩:=hrel;have HNO:=hI_ hno;clear hno;have HBW:=hI_ hbw;clear hbw;by_cases hlt:k<l.length
  · have hlt2:k<m.length:=by have:=HNE.out;omega
    obtain⟨_,_,hA,_,_,hc⟩:=HV.out.below HBW.out;cases hA;obtain⟨b,o,rfl,hbs,hc⟩:=hc a_;have e1:=hc k hlt;obtain⟨_,_,hA,_,_,hc2⟩:=HU.out.below HBW.out;cases hA;obtain⟨b',o',rfl,hbs',hc2⟩:=hc2 a_;have e2:=hc2 k hlt2;clear hc hc2;have hki:(k:Int)<(l.length:Int):=a_;have hki2:(k:Int)<(m.length:Int):=a_;have hk0:(0:Int)≤(k:Int):=a_;have HY:Hid (l[k]=m[k]→l.take (k+1)=m.take (k+1)):=hI_ (fun h=>by rw[qaZ hlt,qaZ hlt2,HNO.out,h]);have HN:Hid (l[k]≠m[k]→(l==m)=false):=hI_ (fun h=>by rw[beq_eq_false_iff_ne];intro e;subst e;exact h rfl);generalize l[k]=x at*
    generalize m[k]=y at*
    have hup:=qap wr;by_cases hxy:x=y
    · have hxy':(x !=y)=false:=by simp[hxy]
      go_wp2
      refine qoH ?_;repeat(go_big_quiet_step (fail))
      refine wq_ fun w1 hb1=>?_;clear hup;go_wp2
      go_roundw
      case rel=>exact⟨k+1,a_,t_,HY.out hxy,HBW.out.trans (hb1.mono HBW.out.size)⟩
      case measure=>simp[intOf];omega
    · have hxy':(x !=y)=true:=by simp[hxy]
      have HXY:=hI_ hxy;clear hxy;go_wp2
      refine qoH ?_;repeat(go_big_quiet_step (fail))
      refine wq_ fun w1 hb1=>?_;clear hup;go_wp2
      go_ret;exact⟨qaM (HN.out HXY.out).symm,HBW.out.trans (hb1.mono HBW.out.size)⟩
  · obtain rfl:k=l.length:=a_;have HQ:Hid ((l==m)=true):=hI_ (by rw[beq_iff_eq];have h:=HNO.out;rw[List.take_length,HNE.out,List.take_length] at h;exact h);go_wp2
    go_ret;exact⟨qaM HQ.out.symm,HBW.out⟩
end Go.Proofs.YtekaaekpdebloaaGreatDoor

/- Words and walks of the law. -/
import Derived.Test.YtekaaekpdebloaaGreatDoorBC5
set_option linter.unusedVariables false
set_option linter.unusedSimpArgs false
set_option maxHeartbeats 12800000
set_option maxRecDepth 100000
namespace Go.Proofs.YtekaaekpdebloaaGreatDoor
open Go.RowKit

theorem qi8(dg n i leaf:Int)(l:List Int)(v:Value)(w:World)(hv:RI w v l):
 gS 255 #[.int .i64 dg,.int .i64 n,.int .i64 i,.int .i64 leaf,v] w (.bool (qaT dg n i leaf l)):=by
 have HV:=hI_ hv;clear hv;cases hA:inB n 1 16
 · have HA:=hI_ hA;have HR:Hid (qaT dg n i leaf l=false):=hI_ (by simp[qaT,hA]);clear hA;go_enter Tryz.func255,Tryz.ntmps255
   go_wp2_with (go_at_call 124;refine(qaV _ _ _ _).mono ?_;rw[HA.out];rintro e w' ⟨rfl,rfl⟩)
   go_ret;exact⟨qaM HR.out.symm,rfl⟩
 have HA:=hI_ hA;have hA':=qak.1 hA;cases hB:inB i 0 (n-1)
 · have HB:=hI_ hB;have HR:Hid (qaT dg n i leaf l=false):=hI_ (by simp[qaT,hB]);clear hA hB;go_enter Tryz.func255,Tryz.ntmps255
   go_wp2_with (first
    |(go_at_call 124;refine(qaV _ _ _ _).mono ?_;(first|rw[HA.out]|rw[HB.out]);rintro e w' ⟨rfl,rfl⟩))
   go_ret;exact⟨qaM HR.out.symm,rfl⟩
 have HB:=hI_ hB;have hB':=qak.1 hB;cases hC:dig leaf
 · have HC:=hI_ hC;have HR:Hid (qaT dg n i leaf l=false):=hI_ (by simp[qaT,hC]);clear hA hB hC;go_enter Tryz.func255,Tryz.ntmps255
   go_wp2_with (first
    |(go_at_call 124;refine(qaV _ _ _ _).mono ?_;(first|rw[HA.out]|rw[HB.out]);rintro e w' ⟨rfl,rfl⟩)
    |(go_at_call 201;refine(qbF _ _).mono ?_;rw[HC.out];rintro e w' ⟨rfl,rfl⟩))
   go_ret;exact⟨qaM HR.out.symm,rfl⟩
 have HC:=hI_ hC;cases hD:qb7 l
 · have HD:=hI_ hD;have HR:Hid (qaT dg n i leaf l=false):=hI_ (by simp[qaT,hD]);clear hA hB hC hD;go_enter Tryz.func255,Tryz.ntmps255
   go_wp2_with (first
    |(go_at_call 124;refine(qaV _ _ _ _).mono ?_;(first|rw[HA.out]|rw[HB.out]);rintro e w' ⟨rfl,rfl⟩)
    |(go_at_call 201;refine(qbF _ _).mono ?_;rw[HC.out];rintro e w' ⟨rfl,rfl⟩)
    |(go_at_call 274;refine(qdD l _ _ HV.out).mono ?_;rw[HD.out];rintro e w' ⟨rfl,rfl⟩))
   go_ret;exact⟨qaM HR.out.symm,rfl⟩
 have HD:=hI_ hD;obtain⟨N,rfl⟩:=Int.eq_ofNat_of_zero_le (show 0≤n by omega);obtain⟨I,rfl⟩:=Int.eq_ofNat_of_zero_le (show 0≤i by omega);have HR:Hid (qaT dg N I leaf l=qbl dg N I leaf l):=hI_ (by simp[qaT,hA,hB,hC,hD]);have hN:N≤16:=a_;have hI:I<N:=a_;clear hA hB hC hD hA' hB';go_enter Tryz.func255,Tryz.ntmps255
 go_wp2_with (first
  |(go_at_call 124;refine(qaV _ _ _ _).mono ?_;(first|rw[HA.out]|rw[HB.out]);rintro e w' ⟨rfl,rfl⟩)
  |(go_at_call 201;refine(qbF _ _).mono ?_;rw[HC.out];rintro e w' ⟨rfl,rfl⟩)
  |(go_at_call 274;refine(qdD l _ _ HV.out).mono ?_;rw[HD.out];rintro e w' ⟨rfl,rfl⟩)
  |(go_at_call 275;refine(qjt dg leaf N I l _ _ HV.out hN hI HC.out HD.out).mono ?_;rintro e w' ⟨rfl,rfl⟩))
 go_ret;exact⟨qaM HR.out.symm,rfl⟩

theorem qgo(dg leaf:Int)(n i:Nat)(l:List Int)(v:Value)(w:World)(hv:RI w v l)(hn:n≤16)(hi:i<n)(hlf:dig leaf=true)(hd:qb7 l=true):
 gV 211 #[.int .i64 dg,.int .i64 n,.int .i64 i,.int .i64 leaf,v] w (.bool (qbl dg n i leaf l)):=by
 have HLF:=hI_ hlf;clear hlf;have HD:=hI_ hd;clear hd;have HV:=hI_ hv;obtain⟨p1,p2,p3,p4,p5,p6,p7,p8,p9⟩:=qhA n a_ i hi;have HP2:=hI_ p2;clear p2 p7 p8 p9 p4 p5 p6;have hl16:2 ^ lev n i≤2 ^ 4:=Nat.pow_le_pow_right a_ p3;obtain⟨Z,HZ⟩:=nm_ (2 ^ lev n i);rw[HZ.out] at hl16;have HA:Hid (inB n 1 16=true):=hI_ (qak.2 a_);have HB:Hid (inB i 0 ((n:Int)-1)=true):=hI_ (qak.2 a_);have hTL:=qaY 0 n;go_enter Tryz.func211,Tryz.ntmps211
 go_wp2_with (first
  |(go_at_call 113;refine(qaO _ _ _ _).mono ?_;(first|rw[HA.out]|rw[HB.out]);rintro e w' ⟨rfl,rfl⟩)
  |(go_at_call 217;refine(qbX _ _).mono ?_;rw[HLF.out];rintro e w' ⟨rfl,rfl⟩)
  |(go_at_call 259;refine(qca l _ _ HV.out).mono ?_;rw[HD.out];rintro e w' ⟨rfl,rfl⟩)
  |(go_at_call 213;refine(qbs 0 n _ a_ hn).mono ?_;rintro e w1 ⟨v1,rfl,ho1,hb1⟩)
  |(go_at_call 214;refine(qj6 n i _ _ ho1.r2 hn hi).mono ?_;rintro e w2 ⟨rfl,hb2⟩))
 have hb12:=qa3 hb1 hb2;obtain⟨A',c',rfl,k1,k2,k3⟩:=ho1.r2.below hb2;obtain⟨b',o',rfl,kb,kc⟩:=k3 a_;have kc2:w2.cell? ⟨b',o'+qbM n i*2+1,none⟩=some (.int .i64 (Z:Int)):=by
  rw[(kc _ p1).2,ql2 p1,←HZ.out,←HP2.out];rfl
 unfold maxLen at k2;clear kc k3;go_loop [4,13,14] (fun pv r q=>∃ j:Nat,j≤lev n i∧j≤l.length∧q=.int .i64 ((2 ^ j:Nat):Int)∧RI w2 pv (l.drop j)∧r=.int .i64 (qb0 i 0 leaf (l.take j))) (fun _ _ q=>64-(intOf q).toNat)
 case atStart=>exact⟨0,Nat.zero_le _,Nat.zero_le _,rfl,HV.out.below hb12,rfl⟩
 case round=>
  obtain⟨j,hj,hjl,rfl,hrp,rfl⟩:=hrel;have hm:=hrp.len;unfold maxLen at hm;obtain⟨d,HDJ⟩:=nm_ (l.drop j);have hdl:(l.drop j).length=l.length-j:=List.length_drop;rw[HDJ.out] at hrp hm hdl;obtain⟨A3,c3,rfl,q1,q2,q3⟩:=id hrp;unfold maxLen at q2;by_cases hlt:j<lev n i
  · have hS1:1≤2 ^ j:=Nat.one_le_two_pow;have hS8:2 ^ j≤2 ^ 3:=Nat.pow_le_pow_right a_ a_;have hlt':2 ^ j<Z:=by rw[←HZ.out];exact Nat.pow_lt_pow_right a_ hlt
    have hi16:i<65536:=a_;have hp16:2 ^ j<65536:=a_;have hand:bits .and .i64 (i:Int) ((2 ^ j:Nat):Int)=((i &&& 2 ^ j:Nat):Int):=qnv i _ hi16 hp16;have HAND:=hI_ hand;clear hand;have HAB:=hI_ (qnu i a_ j a_);have HJ:Hid ((2 ^ (j+1):Nat)=2 ^ j*2):=hI_ (Nat.pow_succ 2 j);by_cases hend:j=l.length
    · have HC:Hid (qbl dg n i leaf l=false):=hI_ (qfJ _ _ _ a_);obtain rfl:d=[]:=List.eq_nil_of_length_eq_zero a_;generalize hS:2 ^ j=S at*
      clear hS HJ HAND HAB q3 hend hdl;go_wp2
      go_ret;exact⟨qaM HC.out.symm,hb12⟩
    · have hjl':j<l.length:=a_;obtain⟨b,o,rfl,hb,hc⟩:=q3 a_;have HS:=hI_ (qec i (l.take j) 0 leaf l[j]);have HT:=hI_ (qbz hjl');have HDX:=hI_ (qdc HD.out hjl');have HDR:=hI_ (qc7 i (l.take j) 0 leaf HLF.out);have hlj:(l.take j).length=j:=by simp;omega
      have HD1:Hid (l.drop (j+1)=d.drop 1):=hI_ (by rw[←HDJ.out,List.drop_drop]);have hcell:w2.cell? ⟨b,o,none⟩=some (.int .i64 l[j]):=by
       have:=hc 0 a_;rw[Nat.add_zero] at this;rw[this];congr 2;have h9:=HDJ.out;subst h9;simp
      have HST:Hid (qb0 i 0 leaf (l.take (j+1))=if i &&& 2 ^ j=0 then qbo (qb0 i 0 leaf (l.take j)) l[j] else qbo l[j] (qb0 i 0 leaf (l.take j))):=
       hI_ (by rw[HT.out,HS.out,hlj,Nat.zero_add];simp only[HAB.out])
      have hd1:1≤d.length:=a_;clear hc q3 hlj HAB HS HT hend hdl;have hcc:=q1.1;generalize qb0 i 0 leaf (l.take j)=r at*
      generalize l[j]=x at*
      generalize hS:2 ^ j=S at*
      have HSS:=hI_ hS;clear hS;have hand:=HAND.out;generalize i &&& S=D at*
      by_cases hc1:c3=1
      · subst hc1;have hlen1:d.length=1:=a_;have hr1:RI w2 (.slice (some ⟨b,o,none⟩) 0 0) (d.drop 1):=by
         have hz:d.drop 1=[]:=List.eq_nil_of_length_eq_zero n_;rw[hz];exact⟨_,0,rfl,⟨nr_ _,fun h=>aj_⟩,s_,fun h=>by simp at h⟩
        rw[hlen1];clear hlen1;by_cases hpar:D=0
        · have HX:Hid (qb0 i 0 leaf (l.take (j+1))=qbo r x):=hI_ (by rw[HST.out,if_pos hpar]);subst hpar;clear HST;go_wp2_with (go_at_call 260;refine(qbf _ _ _ HDR.out HDX.out).mono ?_;rintro e w' ⟨rfl,rfl⟩)
          go_round
          case rel=>exact⟨j+1,a_,a_,ak_,bc_,aM_⟩
          case measure=>simp[intOf];omega
        · have HX:Hid (qb0 i 0 leaf (l.take (j+1))=qbo x r):=hI_ (by rw[HST.out,if_neg hpar]);have hpb:((D:Int)==0)=false:=by simp;omega
          clear HST;go_wp2_with (go_at_call 260;refine(qbf _ _ _ HDX.out HDR.out).mono ?_;rintro e w' ⟨rfl,rfl⟩)
          go_round
          case rel=>exact⟨j+1,a_,a_,ak_,bc_,aM_⟩
          case measure=>simp[intOf];omega
      · have hr1:=R1.drop hrp (m:=1) a_;by_cases hpar:D=0
        · have HX:Hid (qb0 i 0 leaf (l.take (j+1))=qbo r x):=hI_ (by rw[HST.out,if_pos hpar]);subst hpar;clear HST;go_wp2_with (go_at_call 260;refine(qbf _ _ _ HDR.out HDX.out).mono ?_;rintro e w' ⟨rfl,rfl⟩)
          go_round
          case rel=>exact⟨j+1,a_,a_,ak_,bc_,aM_⟩
          case measure=>simp[intOf];omega
        · have HX:Hid (qb0 i 0 leaf (l.take (j+1))=qbo x r):=hI_ (by rw[HST.out,if_neg hpar]);have hpb:((D:Int)==0)=false:=by simp;omega
          clear HST;go_wp2_with (go_at_call 260;refine(qbf _ _ _ HDX.out HDR.out).mono ?_;rintro e w' ⟨rfl,rfl⟩)
          go_round
          case rel=>exact⟨j+1,a_,a_,ak_,bc_,aM_⟩
          case measure=>simp[intOf];omega
  · obtain rfl:j=lev n i:=a_;rw[HZ.out];have hkT:qbM n i≤(qaz 0 n).length-1:=a_;by_cases hlen:d.length=(qaz 0 n).length-1
    · have hr1:=R1.take hrp (m:=qbM n i) a_;have HCK:Hid (qbl dg n i leaf l=(qdI n (d.take (qbM n i)++[qb0 i 0 leaf (l.take (lev n i))]++d.drop (qbM n i))==dg)):=hI_ (by
       unfold qbl;rw[HDJ.out,decide_eq_true a_,Bool.true_and])
      have HDR:=hI_ (qc7 i (l.take (lev n i)) 0 leaf HLF.out);have HDN:Hid (dig (n:Int)=true):=hI_ (qa4.2 a_);have HDD:Hid (qb7 d=true):=hI_ (by rw[←HDJ.out];exact qc0 HD.out _);generalize qb0 i 0 leaf (l.take (lev n i))=r at*
      have HDP:Hid (qb7 (d.take (qbM n i)++[r]++d.drop (qbM n i))=true):=hI_ (by
       have h1:=qcb HDD.out (qbM n i);have h2:=qc0 HDD.out (qbM n i);unfold qb7 at h1 h2 ⊢;rw[List.all_append,List.all_append,h1,h2];simp[HDR.out])
      have hne:((d.length:Int)!=((qaz 0 n).length:Int)-1)=false:=by simp;omega
      have hkd:qbM n i≤d.length:=a_;have hcc:=q1.1;have hdl9:d.length≤1000:=a_;have hT1:1≤(qaz 0 n).length:=a_;have hn16:(n:Int)≤16:=a_;have hle1:d.length≤(qaz 0 n).length-1:=a_;have hle2:(qaz 0 n).length-1≤d.length:=a_;clear hdl hkT hlen;generalize qbM n i=kk at*
      by_cases hd0:d.length=0
      · obtain rfl:d=[]:=List.eq_nil_of_length_eq_zero hd0;obtain rfl:kk=0:=a_;have hne0:((0:Int)!=((qaz 0 n).length:Int)-1)=false:=by simp at hle1 hle2 ⊢;omega
        have hr2:RI w2 (.slice A3 0 c3) ([]:List Int):=hrp;have hr1':RI w2 (.slice A3 0 c3) ([]:List Int):=hrp;rcases A3 with _|ad
        · obtain rfl:c3=0:=q1.2 rfl;go_wp2_with (first
           |(go_at_call 104;refine(qdS _ _ _ hr1' k_).mono ?_;rintro e w3 ⟨v3,rfl,ho3,hb3⟩;have hr3:=hr2.below hb3;have ho3':=ho3.alloc (.cells #[.int .i64 r] 3))
           |(at_builtin;refine qcf ho3 k_ hb3.size rfl rfl rfl rfl ?_;intro v4 w4 hown4 hb4;have hb34:=hb3.trans hb4;have hr4:=hr2.below hb34)
           |(at_builtin;refine qdx hown4 hr4 k_ hb34.size rfl rfl rfl rfl ?_;intro v5 w5 hown5 hb5;have hb35:=hb34.trans hb5)
           |(go_at_call 219;refine(qcl _ _ _ _ HDN.out HDP.out hown5.r1).mono ?_;rintro e w6 ⟨rfl,rfl⟩))
          go_ret;exact⟨qaM (by rw[HCK.out];simp),qa3 hb12 hb35⟩
        · clear q1 hd0;go_wp2_with (first
           |(go_at_call 104;refine(qdS _ _ _ hr1' k_).mono ?_;rintro e w3 ⟨v3,rfl,ho3,hb3⟩;have hr3:=hr2.below hb3;have ho3':=ho3.alloc (.cells #[.int .i64 r] 3))
           |(at_builtin;refine qcf ho3 k_ hb3.size rfl rfl rfl rfl ?_;intro v4 w4 hown4 hb4;have hb34:=hb3.trans hb4;have hr4:=hr2.below hb34)
           |(at_builtin;refine qdx hown4 hr4 k_ hb34.size rfl rfl rfl rfl ?_;intro v5 w5 hown5 hb5;have hb35:=hb34.trans hb5)
           |(go_at_call 219;refine(qcl _ _ _ _ HDN.out HDP.out hown5.r1).mono ?_;rintro e w6 ⟨rfl,rfl⟩))
          go_ret;exact⟨qaM (by rw[HCK.out];simp),qa3 hb12 hb35⟩
      · obtain⟨b,o,rfl,hb,_⟩:=q3 a_;clear q3 q1;by_cases hck:c3=kk
        · subst hck;have hr2:RI w2 (.slice (some ⟨b,o,none⟩) 0 0) (d.drop c3):=by
           have hz:d.drop c3=[]:=List.eq_nil_of_length_eq_zero n_;rw[hz];exact⟨_,0,rfl,⟨nr_ _,fun h=>aj_⟩,s_,fun h=>by simp at h⟩
          have hz1:d.length-c3=0:=a_;go_wp2_with (first
           |(go_at_call 104;refine(qdS _ _ _ hr1 n_).mono ?_;rintro e w3 ⟨v3,rfl,ho3,hb3⟩;have hr3:=hr2.below hb3;have ho3':=ho3.alloc (.cells #[.int .i64 r] 3))
           |(at_builtin;refine qcf ho3 n_ hb3.size rfl rfl rfl rfl ?_;intro v4 w4 hown4 hb4;have hb34:=hb3.trans hb4;have hr4:=hr2.below hb34)
           |(at_builtin;refine qdx hown4 hr4 n_ hb34.size rfl rfl rfl rfl ?_;intro v5 w5 hown5 hb5;have hb35:=hb34.trans hb5)
           |(go_at_call 219;refine(qcl _ _ _ _ HDN.out HDP.out hown5.r1).mono ?_;rintro e w6 ⟨rfl,rfl⟩))
          go_ret;exact⟨qaM (by rw[HCK.out];simp),qa3 hb12 hb35⟩
        · have hr2:=R1.drop hrp (m:=kk) a_;go_wp2_with (first
           |(go_at_call 104;refine(qdS _ _ _ hr1 n_).mono ?_;rintro e w3 ⟨v3,rfl,ho3,hb3⟩;have hr3:=hr2.below hb3;have ho3':=ho3.alloc (.cells #[.int .i64 r] 3))
           |(at_builtin;refine qcf ho3 n_ hb3.size rfl rfl rfl rfl ?_;intro v4 w4 hown4 hb4;have hb34:=hb3.trans hb4;have hr4:=hr2.below hb34)
           |(at_builtin;refine qdx hown4 hr4 n_ hb34.size rfl rfl rfl rfl ?_;intro v5 w5 hown5 hb5;have hb35:=hb34.trans hb5)
           |(go_at_call 219;refine(qcl _ _ _ _ HDN.out HDP.out hown5.r1).mono ?_;rintro e w6 ⟨rfl,rfl⟩))
          go_ret;exact⟨qaM (by rw[HCK.out];simp),qa3 hb12 hb35⟩
    · have HCK:Hid (qbl dg n i leaf l=false):=hI_ (by unfold qbl;rw[decide_eq_false a_];rfl);have hne:((d.length:Int)!=((qaz 0 n).length:Int)-1)=true:=by simp;omega
      clear hdl;go_wp2
      go_ret;exact⟨qaM HCK.out.symm,hb12⟩
theorem qi7(dg n i leaf:Int)(l:List Int)(v:Value)(w:World)(hv:RI w v l):
 gV 211 #[.int .i64 dg,.int .i64 n,.int .i64 i,.int .i64 leaf,v] w (.bool (qaT dg n i leaf l)):=by
 have HV:=hI_ hv;clear hv;cases hA:inB n 1 16
 · have HA:=hI_ hA;have HR:Hid (qaT dg n i leaf l=false):=hI_ (by simp[qaT,hA]);clear hA;go_enter Tryz.func211,Tryz.ntmps211
   go_wp2_with (go_at_call 113;refine(qaO _ _ _ _).mono ?_;rw[HA.out];rintro e w' ⟨rfl,rfl⟩)
   go_ret;exact⟨qaM HR.out.symm,bR_ _ _⟩
 have HA:=hI_ hA;have hA':=qak.1 hA;cases hB:inB i 0 (n-1)
 · have HB:=hI_ hB;have HR:Hid (qaT dg n i leaf l=false):=hI_ (by simp[qaT,hB]);clear hA hB;go_enter Tryz.func211,Tryz.ntmps211
   go_wp2_with (go_at_call 113;refine(qaO _ _ _ _).mono ?_;(first|rw[HA.out]|rw[HB.out]);rintro e w' ⟨rfl,rfl⟩)
   go_ret;exact⟨qaM HR.out.symm,bR_ _ _⟩
 have HB:=hI_ hB;have hB':=qak.1 hB;cases hC:dig leaf
 · have HC:=hI_ hC;have HR:Hid (qaT dg n i leaf l=false):=hI_ (by simp[qaT,hC]);clear hA hB hC;go_enter Tryz.func211,Tryz.ntmps211
   go_wp2_with (first
    |(go_at_call 113;refine(qaO _ _ _ _).mono ?_;(first|rw[HA.out]|rw[HB.out]);rintro e w' ⟨rfl,rfl⟩)
    |(go_at_call 217;refine(qbX _ _).mono ?_;rw[HC.out];rintro e w' ⟨rfl,rfl⟩))
   go_ret;exact⟨qaM HR.out.symm,bR_ _ _⟩
 have HC:=hI_ hC;cases hD:qb7 l
 · have HD:=hI_ hD;have HR:Hid (qaT dg n i leaf l=false):=hI_ (by simp[qaT,hD]);clear hA hB hC hD;go_enter Tryz.func211,Tryz.ntmps211
   go_wp2_with (first
    |(go_at_call 113;refine(qaO _ _ _ _).mono ?_;(first|rw[HA.out]|rw[HB.out]);rintro e w' ⟨rfl,rfl⟩)
    |(go_at_call 217;refine(qbX _ _).mono ?_;rw[HC.out];rintro e w' ⟨rfl,rfl⟩)
    |(go_at_call 259;refine(qca l _ _ HV.out).mono ?_;rw[HD.out];rintro e w' ⟨rfl,rfl⟩))
   go_ret;exact⟨qaM HR.out.symm,bR_ _ _⟩
 obtain⟨N,rfl⟩:=Int.eq_ofNat_of_zero_le (show 0≤n by omega);obtain⟨I,rfl⟩:=Int.eq_ofNat_of_zero_le (show 0≤i by omega);have HR:qaT dg N I leaf l=qbl dg N I leaf l:=by simp[qaT,hA,hB,hC,hD]
 rw[HR];exact qgo dg leaf N I l v w HV.out a_ a_ hC hD
theorem qjB(a b c:Int)(w:World)(ha:dig a=true)(hb:dig b=true):
 gV 218 #[.agg #[.int .i64 a,.int .i64 b,.int .i64 c]] w (.int .i64 (qbo a b+1)):=by
 have ⟨hp0,hp1⟩:=qdW a b;have HA:=hI_ ha;have HB:=hI_ hb;clear ha hb;go_enter Tryz.func218,Tryz.ntmps218
 go_wp2_with (go_at_call 260;refine(qbf _ _ _ HA.out HB.out).mono ?_;rintro e w' ⟨rfl,rfl⟩)
 go_ret;exact⟨rfl,(bR_ _ _).alloc (nr_ _) _⟩

theorem qbK{n:Int}{b:Bool}(h:Hid (key n=b))(w:World):gS 149 #[.int .i64 n] w (.bool b):=by
 rw[←h.out];exact qfX n w
theorem qbS{n:Int}{b:Bool}(h:Hid (key n=b))(w:World):gS 123 #[.int .i64 n] w (.bool b):=by
 rw[←h.out];exact qfZ n w
theorem qbe{n x y:Int}{b:Bool}(h:Hid (inB n x y=b))(w:World):gS 113 #[.int .i64 n,.int .i64 x,.int .i64 y] w (.bool b):=by
 rw[←h.out];exact qaO n x y w
theorem qbG{n x y:Int}{b:Bool}(h:Hid (inB n x y=b))(w:World):gS 124 #[.int .i64 n,.int .i64 x,.int .i64 y] w (.bool b):=by
 rw[←h.out];exact qaV n x y w
theorem qgJ{n:Int}{b:Bool}(h:Hid (dig n=b))(w:World):gS 217 #[.int .i64 n] w (.bool b):=by
 rw[←h.out];exact qbX n w
theorem qgP{n:Int}{b:Bool}(h:Hid (dig n=b))(w:World):gS 201 #[.int .i64 n] w (.bool b):=by
 rw[←h.out];exact qbF n w
theorem qf6{a b c m:Int}(h:Hid (qbo a b+1=m))(w:World)(ha:dig a=true)(hb:dig b=true):
 gV 218 #[.agg #[.int .i64 a,.int .i64 b,.int .i64 c]] w (.int .i64 m):=by
 rw[←h.out];exact qjB a b c w ha hb
theorem qev{a b m:Int}(h:Hid (qbo a b+1=m))(w:World)(ha:dig a=true)(hb:dig b=true):
 gS 202 #[.int .i64 a,.int .i64 b] w (.int .i64 m):=by
 rw[←h.out];exact qhv a b w ha hb

theorem qiY(p:Int)(h:Hd)(w:World):
 gV 150 #[.int .i64 p,.agg #[.int .i64 h.len,.int .i64 h.dg,.int .i64 h.sg]] w (.bool (qbE p h)):=by
 obtain⟨L,D,S⟩:=h;have hcases:∃ b1 b2 b3 b4:Bool,Hid (key p=b1)∧Hid (inB L 0 16=b2)∧Hid (dig D=b3)∧Hid (key S=b4):=⟨_,_,_,_,hI_ rfl,hI_ rfl,hI_ rfl,hI_ rfl⟩
 obtain⟨b1,b2,b3,b4,H1,H2,H3,H4⟩:=hcases;obtain⟨m,HM⟩:=nm_ (qbo L D+1);have HR:Hid (qbE p ⟨L,D,S⟩=(b1&&b2&&b3&&b4&&(S*5%997==p*m%997))):=hI_ (by unfold qbE;simp only[H1.out,H2.out,H3.out,H4.out,HM.out]);have ⟨hp0,hp1⟩:=qdW L D;have hm2:1≤m:=by rw[←HM.out];omega
 have hm3:m≤991:=by rw[←HM.out];omega
 clear hp0 hp1;simp only;by_cases hall:b1=true∧b2=true∧b3=true∧b4=true
 · obtain⟨rfl,rfl,rfl,rfl⟩:=hall;have k1:=qcd.1 H1.out;have k2:=qak.1 H2.out;have k4:=qcd.1 H4.out;have hdL:dig L=true:=qa4.2 a_;have HDL:=hI_ hdL;clear hdL;have hm0:0≤p*m:=Int.mul_nonneg a_ a_;have hm1:p*m≤996*991:=Int.mul_le_mul a_ a_ a_ a_;go_enter Tryz.func150,Tryz.ntmps150
   go_wp2
   have c0:(w.alloc (.cells #[.int .i64 L,.int .i64 D,.int .i64 S] 46)).cell? ⟨w.heap.size,0,none⟩=some (.int .i64 L):=cell_of_row _ _ 0 _ _ _ (heap_alloc_new w _);have c1:(w.alloc (.cells #[.int .i64 L,.int .i64 D,.int .i64 S] 46)).cell? ⟨w.heap.size,1,none⟩=some (.int .i64 D):=cell_of_row _ _ 1 _ _ _ (heap_alloc_new w _);have c2:(w.alloc (.cells #[.int .i64 L,.int .i64 D,.int .i64 S] 46)).cell? ⟨w.heap.size,2,none⟩=some (.int .i64 S):=cell_of_row _ _ 2 _ _ _ (heap_alloc_new w _);have hW:w.heap.size<(w.alloc (.cells #[.int .i64 L,.int .i64 D,.int .i64 S] 46)).heap.size:=k_;have hbW:=(bR_ w.heap.size w).alloc (nr_ _) (.cells #[.int .i64 L,.int .i64 D,.int .i64 S] 46);generalize w.alloc (.cells #[.int .i64 L,.int .i64 D,.int .i64 S] 46)=W at*
   have hup:=qap W;refine qoH ?_;repeat(go_big_quiet_step (first
    |(go_at_call_of 149 p;exact qaj (qbK H1 _))
    |(go_at_call 149;exact qaj (qbK H4 _))
    |(go_at_call 113;exact qaj (qbe H2 _))
    |(go_at_call 217;exact qaj (qgJ H3 _))
    |(go_at_call 218;exact qal (qf6 HM _ HDL.out H3.out))))
   refine wq_ fun w1 hb1=>?_;clear hup;go_wp2
   go_ret;refine⟨qaM ?_,hbW.trans (hb1.mono a_)⟩;rw[HR.out];simp
 have hlt:(b1&&b2&&b3&&b4)=false:=by
  cases b1 <;> cases b2 <;> cases b3 <;> cases b4 <;> simp_all
 have HRF:Hid (qbE p ⟨L,D,S⟩=false):=hI_ (by rw[HR.out,hlt];rfl);have HALL:=hI_ hall;clear hlt hall HR;have HR:=HRF;clear HRF;have HDL:Hid True:=hI_ trivial;cases b1
 rotate_left;cases b2
 rotate_left;cases b3
 rotate_left;cases b4
 rotate_left
 · exact absurd ⟨rfl,rfl,rfl,rfl⟩ HALL.out
 all_goals
  go_enter Tryz.func150,Tryz.ntmps150
  go_wp2
  have c0:(w.alloc (.cells #[.int .i64 L,.int .i64 D,.int .i64 S] 46)).cell? ⟨w.heap.size,0,none⟩=some (.int .i64 L):=cell_of_row _ _ 0 _ _ _ (heap_alloc_new w _);have c1:(w.alloc (.cells #[.int .i64 L,.int .i64 D,.int .i64 S] 46)).cell? ⟨w.heap.size,1,none⟩=some (.int .i64 D):=cell_of_row _ _ 1 _ _ _ (heap_alloc_new w _);have c2:(w.alloc (.cells #[.int .i64 L,.int .i64 D,.int .i64 S] 46)).cell? ⟨w.heap.size,2,none⟩=some (.int .i64 S):=cell_of_row _ _ 2 _ _ _ (heap_alloc_new w _);have hW:w.heap.size<(w.alloc (.cells #[.int .i64 L,.int .i64 D,.int .i64 S] 46)).heap.size:=k_;have hbW:=(bR_ w.heap.size w).alloc (nr_ _) (.cells #[.int .i64 L,.int .i64 D,.int .i64 S] 46);generalize w.alloc (.cells #[.int .i64 L,.int .i64 D,.int .i64 S] 46)=W at*
  have hup:=qap W;refine qoH ?_;repeat(go_big_quiet_step (first
   |(go_at_call_of 149 p;exact qaj (qbK H1 _))
   |(go_at_call 149;exact qaj (qbK H4 _))
   |(go_at_call 113;exact qaj (qbe H2 _))
   |(go_at_call 217;exact qaj (qgJ H3 _))
   |(go_at_call 218;exact qal (qf6 HM _ HDL.out H3.out))))
  refine wq_ fun w1 hb1=>?_;clear hup;go_wp2
  go_ret;refine⟨qaM ?_,hbW.trans (hb1.mono a_)⟩;rw[HR.out]

theorem qiZ(p:Int)(h:Hd)(w:World):
 gV 128 #[.int .i64 p,.agg #[.int .i64 h.len,.int .i64 h.dg,.int .i64 h.sg]] w (.bool (qbE p h)):=by
 obtain⟨L,D,S⟩:=h;have hcases:∃ b1 b2 b3 b4:Bool,Hid (key p=b1)∧Hid (inB L 0 16=b2)∧Hid (dig D=b3)∧Hid (key S=b4):=⟨_,_,_,_,hI_ rfl,hI_ rfl,hI_ rfl,hI_ rfl⟩
 obtain⟨b1,b2,b3,b4,H1,H2,H3,H4⟩:=hcases;obtain⟨m,HM⟩:=nm_ (qbo L D+1);have HR:Hid (qbE p ⟨L,D,S⟩=(b1&&b2&&b3&&b4&&(S*5%997==p*m%997))):=hI_ (by unfold qbE;simp only[H1.out,H2.out,H3.out,H4.out,HM.out]);have ⟨hp0,hp1⟩:=qdW L D;have hm2:1≤m:=by rw[←HM.out];omega
 have hm3:m≤991:=by rw[←HM.out];omega
 clear hp0 hp1;simp only;by_cases hall:b1=true∧b2=true∧b3=true∧b4=true
 · obtain⟨rfl,rfl,rfl,rfl⟩:=hall;have k1:=qcd.1 H1.out;have k2:=qak.1 H2.out;have k4:=qcd.1 H4.out;have hdL:dig L=true:=qa4.2 a_;have HDL:=hI_ hdL;clear hdL;have hm0:0≤p*m:=Int.mul_nonneg a_ a_;have hm1:p*m≤996*991:=Int.mul_le_mul a_ a_ a_ a_;go_enter Tryz.func128,Tryz.ntmps128
   go_wp2
   have c0:(w.alloc (.cells #[.int .i64 L,.int .i64 D,.int .i64 S] 46)).cell? ⟨w.heap.size,0,none⟩=some (.int .i64 L):=cell_of_row _ _ 0 _ _ _ (heap_alloc_new w _);have c1:(w.alloc (.cells #[.int .i64 L,.int .i64 D,.int .i64 S] 46)).cell? ⟨w.heap.size,1,none⟩=some (.int .i64 D):=cell_of_row _ _ 1 _ _ _ (heap_alloc_new w _);have c2:(w.alloc (.cells #[.int .i64 L,.int .i64 D,.int .i64 S] 46)).cell? ⟨w.heap.size,2,none⟩=some (.int .i64 S):=cell_of_row _ _ 2 _ _ _ (heap_alloc_new w _);have hW:w.heap.size<(w.alloc (.cells #[.int .i64 L,.int .i64 D,.int .i64 S] 46)).heap.size:=k_;have hbW:=(bR_ w.heap.size w).alloc (nr_ _) (.cells #[.int .i64 L,.int .i64 D,.int .i64 S] 46);generalize w.alloc (.cells #[.int .i64 L,.int .i64 D,.int .i64 S] 46)=W at*
   have hup:=qap W;refine qoH ?_;repeat(go_big_quiet_step (first
    |(go_at_call_of 123 p;exact qaj (qbS H1 _))
    |(go_at_call 123;exact qaj (qbS H4 _))
    |(go_at_call 124;exact qaj (qbG H2 _))
    |(go_at_call 201;exact qaj (qgP H3 _))
    |(go_at_call 202;exact qaj (qev HM _ HDL.out H3.out))))
   refine wq_ fun w1 hb1=>?_;clear hup;go_wp2
   go_ret;refine⟨qaM ?_,hbW.trans (hb1.mono a_)⟩;rw[HR.out];simp
 have hlt:(b1&&b2&&b3&&b4)=false:=by
  cases b1 <;> cases b2 <;> cases b3 <;> cases b4 <;> simp_all
 have HRF:Hid (qbE p ⟨L,D,S⟩=false):=hI_ (by rw[HR.out,hlt];rfl);have HALL:=hI_ hall;clear hlt hall HR;have HR:=HRF;clear HRF;have HDL:Hid True:=hI_ trivial;cases b1
 rotate_left;cases b2
 rotate_left;cases b3
 rotate_left;cases b4
 rotate_left
 · exact absurd ⟨rfl,rfl,rfl,rfl⟩ HALL.out
 all_goals
  go_enter Tryz.func128,Tryz.ntmps128
  go_wp2
  have c0:(w.alloc (.cells #[.int .i64 L,.int .i64 D,.int .i64 S] 46)).cell? ⟨w.heap.size,0,none⟩=some (.int .i64 L):=cell_of_row _ _ 0 _ _ _ (heap_alloc_new w _);have c1:(w.alloc (.cells #[.int .i64 L,.int .i64 D,.int .i64 S] 46)).cell? ⟨w.heap.size,1,none⟩=some (.int .i64 D):=cell_of_row _ _ 1 _ _ _ (heap_alloc_new w _);have c2:(w.alloc (.cells #[.int .i64 L,.int .i64 D,.int .i64 S] 46)).cell? ⟨w.heap.size,2,none⟩=some (.int .i64 S):=cell_of_row _ _ 2 _ _ _ (heap_alloc_new w _);have hW:w.heap.size<(w.alloc (.cells #[.int .i64 L,.int .i64 D,.int .i64 S] 46)).heap.size:=k_;have hbW:=(bR_ w.heap.size w).alloc (nr_ _) (.cells #[.int .i64 L,.int .i64 D,.int .i64 S] 46);generalize w.alloc (.cells #[.int .i64 L,.int .i64 D,.int .i64 S] 46)=W at*
  have hup:=qap W;refine qoH ?_;repeat(go_big_quiet_step (first
   |(go_at_call_of 123 p;exact qaj (qbS H1 _))
   |(go_at_call 123;exact qaj (qbS H4 _))
   |(go_at_call 124;exact qaj (qbG H2 _))
   |(go_at_call 201;exact qaj (qgP H3 _))
   |(go_at_call 202;exact qaj (qev HM _ HDL.out H3.out))))
  refine wq_ fun w1 hb1=>?_;clear hup;go_wp2
  go_ret;refine⟨qaM ?_,hbW.trans (hb1.mono a_)⟩;rw[HR.out]
theorem qg7(l:List Bool)(v:Value)(w:World)(hv:RB w v l):
 gS 24 #[v] w (.int .i64 (qeG l)):=by
 have hm:=hv.len;obtain⟨A,c,rfl,h1,h2,h3⟩:=hv;unfold maxLen at hm;by_cases h16:16<l.length
 · have h16':(16:Int)<(l.length:Int):=a_;go_enter Tryz.func24,Tryz.ntmps24
   go_wp2
   go_ret;exact⟨qfp (by unfold qeG;rw[if_neg a_]),rfl⟩
 · have h16':¬ (16:Int)<(l.length:Int):=a_;go_enter Tryz.func24,Tryz.ntmps24
   go_wp2
   go_loop [3,11] (fun t i=>∃ k:Nat,k≤l.length∧i=.int .i64 k∧t=.int .i64 (cnt (l.take k):Nat)) (fun _ i=>l.length-(intOf i).toNat)
   case atStart=>exact⟨0,Nat.zero_le _,rfl,rfl⟩
   case round=>
    obtain⟨k,hk,rfl,rfl⟩:=hrel;by_cases hlt:k<l.length
    · obtain⟨b,o,rfl,hb,hc⟩:=h3 a_;have hcell:=hc k hlt;have HS:Hid (cnt (l.take (k+1))=cnt (l.take k)+if l[k] then 1 else 0):=hI_ (by rw[qbz hlt,qjR]);have hcl:cnt (l.take k)≤k:=Nat.le_trans (qlr _) (List.length_take_le _ _);clear hc h3;generalize cnt (l.take k)=t at*
      generalize l[k]=x at*
      cases x
      · go_wp2
        go_round
        case rel=>exact⟨k+1,a_,t_,by rw[HS.out];rfl⟩
        case measure=>simp[intOf];omega
      · go_wp2
        go_round
        case rel=>exact⟨k+1,a_,t_,by rw[HS.out];go_num⟩
        case measure=>simp[intOf];omega
    · go_wp2
      go_ret;exact⟨qfp (by rw[List.take_of_length_le a_];unfold qeG;rw[if_pos a_]),rfl⟩
theorem qf0(l:List Bool)(v:Value)(w:World)(hv:RB w v l):
 gS 131 #[v] w (.int .i64 (cnt l:Nat)):=by
 have hm:=hv.len;obtain⟨A,c,rfl,h1,h2,h3⟩:=hv;unfold maxLen at hm;go_enter Tryz.func131,Tryz.ntmps131
 go_wp2
 go_loop [3,4] (fun t i=>∃ k:Nat,k≤l.length∧i=.int .i64 k∧t=.int .i64 (cnt (l.take k):Nat)) (fun _ i=>l.length-(intOf i).toNat)
 case atStart=>exact⟨0,Nat.zero_le _,rfl,rfl⟩
 case round=>
  obtain⟨k,hk,rfl,rfl⟩:=hrel;by_cases hlt:k<l.length
  · obtain⟨b,o,rfl,hb,hc⟩:=h3 a_;have hcell:=hc k hlt;have HS:Hid (cnt (l.take (k+1))=cnt (l.take k)+if l[k] then 1 else 0):=hI_ (by rw[qbz hlt,qjR]);have hcl:cnt (l.take k)≤k:=Nat.le_trans (qlr _) (List.length_take_le _ _);clear hc h3;generalize cnt (l.take k)=t at*
    generalize l[k]=x at*
    cases x
    · go_wp2
      go_round
      case rel=>exact⟨k+1,a_,t_,by rw[HS.out];rfl⟩
      case measure=>simp[intOf];omega
    · go_wp2
      go_round
      case rel=>exact⟨k+1,a_,t_,by rw[HS.out];go_num⟩
      case measure=>simp[intOf];omega
  · go_wp2
    go_ret;exact⟨qfp aX_,rfl⟩

theorem qdC(bl:List ByteArray)(v:Value)(w:World)(hv:RS w v bl)(hl:bl.length≤10000000000)(hs:∀ s ∈ bl,s.size≤maxLen):
 Calls Tryz.prog 130 #[v] w fun e w'=>∃ v',e=.returned v'∧O1 (Value.int .i64) w.heap.size 3 w' v' (lvs bl)∧bB w w':=by
 have HS:=hI_ hs;clear hs;have HV:=hI_ hv;obtain⟨A,c,rfl,h1,h2,h3⟩:=hv;clear h3;go_enter Tryz.func130,Tryz.ntmps130
 go_wp2
 go_loopw [3,4] (fun out i wr=>∃ k:Nat,k≤bl.length∧i=.int .i64 k∧O1 (Value.int .i64) w.heap.size 3 wr out (lvs (bl.take k))∧bB w wr) (fun _ i _=>bl.length-(intOf i).toNat)
 case atStart=>exact⟨0,Nat.zero_le _,rfl,O1.made _ _ _,(bR_ _ _).alloc (nr_ _) _⟩
 case round=>
  obtain⟨k,hk,rfl,hown,hb⟩:=hrel;by_cases hlt:k<bl.length
  · obtain⟨A',c',hA,_,_,hc⟩:=HV.out.below hb;cases hA;obtain⟨b,o,rfl,hbs,hc⟩:=hc a_;have hcell:=hc k hlt;have hsz:=HS.out _ (List.getElem_mem hlt);have HT:Hid (lvs (bl.take (k+1))=lvs (bl.take k)++[qbi bl[k].data.toList]):=hI_ (by rw[qbz hlt];unfold lvs;rw[List.map_append];rfl);have hlk:(lvs (bl.take k)).length=k:=by simp[lvs];omega
    have HLK:=hI_ hlk;clear hc hlk;generalize bl[k]=s at*
    go_wp2_with (first
     |(go_at_call 132;refine(qe7 s _ hsz).mono ?_;rintro e w' ⟨rfl,rfl⟩)
     |(at_builtin;refine qcf hown (by rw[HLK.out];omega) hb.size rfl rfl rfl rfl ?_;intro v3 w3 hown3 hb3))
    go_roundw
    case rel=>exact⟨k+1,a_,t_,by rw[HT.out];exact hown3,hb.trans hb3⟩
    case measure=>simp[intOf];omega
  · go_wp2
    go_ret;exact⟨_,rfl,aB_,hb⟩
theorem qio(P0:Int)(h:Hd)(vb vh:Value)(hv:List Bool)(w:World)(hh:RB w vh hv):
 gV 57 #[.agg #[.int .i64 P0,.int .i64 h.len,.int .i64 h.dg,.int .i64 h.sg,vb,vh]] w (.bool (cnt hv==hv.length)):=by
 have HH:=hI_ hh;obtain⟨A,c,rfl,h1,h2,h3⟩:=hh;clear h3;go_enter Tryz.func57,Tryz.ntmps57
 go_wp2
 have c5:(w.alloc (.cells #[.int .i64 P0,.int .i64 h.len,.int .i64 h.dg,.int .i64 h.sg,vb,.slice A hv.length c] 50)).cell? ⟨w.heap.size,5,none⟩=some (.slice A hv.length c):=cell_of_row _ _ 5 _ _ _ (heap_alloc_new w _);have hW:w.heap.size<(w.alloc (.cells #[.int .i64 P0,.int .i64 h.len,.int .i64 h.dg,.int .i64 h.sg,vb,.slice A hv.length c] 50)).heap.size:=k_;have hbW:=(bR_ w.heap.size w).alloc (nr_ _) (.cells #[.int .i64 P0,.int .i64 h.len,.int .i64 h.dg,.int .i64 h.sg,vb,.slice A hv.length c] 50);have HR:=hI_ (HH.out.below hbW);generalize w.alloc (.cells #[.int .i64 P0,.int .i64 h.len,.int .i64 h.dg,.int .i64 h.sg,vb,.slice A hv.length c] 50)=W at*
 have hup:=qap W;refine qoH ?_;repeat(go_big_quiet_step ((go_at_call 131;exact qaj (qf0 _ _ _ (HR.out.up _)))))
 refine wq_ fun w1 hb1=>?_;clear hup;go_wp2
 go_ret;refine⟨qaM ?_,hbW.trans (hb1.mono a_)⟩;rw[Bool.eq_iff_iff];simp;omega
theorem qmi(P0:Int)(h:Hd)(vb vh:Value)(hv:List Bool)(w:World)(hh:RB w vh hv):
 gV 71 #[.agg #[.int .i64 P0,.int .i64 h.len,.int .i64 h.dg,.int .i64 h.sg,vb,vh]] w (.bool (qbA hv)):=by
 have HH:=hI_ hh;obtain⟨A,c,rfl,h1,h2,h3⟩:=hh;clear h3;go_enter Tryz.func71,Tryz.ntmps71
 go_wp2
 have c5:(w.alloc (.cells #[.int .i64 P0,.int .i64 h.len,.int .i64 h.dg,.int .i64 h.sg,vb,.slice A hv.length c] 50)).cell? ⟨w.heap.size,5,none⟩=some (.slice A hv.length c):=cell_of_row _ _ 5 _ _ _ (heap_alloc_new w _);have hW:w.heap.size<(w.alloc (.cells #[.int .i64 P0,.int .i64 h.len,.int .i64 h.dg,.int .i64 h.sg,vb,.slice A hv.length c] 50)).heap.size:=k_;have hbW:=(bR_ w.heap.size w).alloc (nr_ _) (.cells #[.int .i64 P0,.int .i64 h.len,.int .i64 h.dg,.int .i64 h.sg,vb,.slice A hv.length c] 50);have HR:=hI_ (HH.out.below hbW);generalize w.alloc (.cells #[.int .i64 P0,.int .i64 h.len,.int .i64 h.dg,.int .i64 h.sg,vb,.slice A hv.length c] 50)=W at*
 have hup:=qap W;refine qoH ?_;repeat(go_big_quiet_step ((go_at_call 24;exact qaj (qg7 _ _ _ (HR.out.up _)))))
 refine wq_ fun w1 hb1=>?_;clear hup;go_wp2
 go_ret;exact⟨rfl,hbW.trans (hb1.mono a_)⟩
theorem qeb(P0:Int)(h:Hd)(vb vh:Value)(bl:List ByteArray)(w:World)(hv:RS w vb bl)(hl:bl.length≤10000000000)(hs:∀ s ∈ bl,s.size≤8):
 Calls Tryz.prog 152 #[.agg #[.int .i64 P0,.int .i64 h.len,.int .i64 h.dg,.int .i64 h.sg,vb,vh]] w fun e w'=>∃ v',e=.returned v'∧O1 (Value.int .i64) w.heap.size 3 w' v' (lvs bl)∧bB w w':=by
 have HS:=hI_ hs;clear hs;have HV:=hI_ hv;obtain⟨A,c,rfl,h1,h2,h3⟩:=hv;clear h3;have hmk:∀ o:Obj,O1 (Value.int .i64) w.heap.size 3 ((w.alloc o).alloc (.cells #[] 3)) (.slice (some ⟨w.heap.size+1,0,none⟩) 0 0) []:=fun o=>by
  have h:=O1.mono (B':=w.heap.size) (O1.made (Value.int .i64) (w.alloc o) 3) k_;simpa using h
 have HMK:=hI_ hmk;clear hmk;go_enter Tryz.func152,Tryz.ntmps152
 go_wp2
 go_loopw [3,10] (fun out i wr=>∃ k:Nat,k≤bl.length∧i=.int .i64 k∧O1 (Value.int .i64) w.heap.size 3 wr out (lvs (bl.take k))∧bB w wr) (fun _ i _=>bl.length-(intOf i).toNat)
 case atStart=>exact⟨0,Nat.zero_le _,rfl,HMK.out _,((bR_ _ _).alloc (nr_ _) _).alloc k_ _⟩
 case round=>
  obtain⟨k,hk,rfl,hown,hb⟩:=hrel;by_cases hlt:k<bl.length
  · obtain⟨A',c',hA,_,_,hc⟩:=HV.out.below hb;cases hA;obtain⟨b,o,rfl,hbs,hc⟩:=hc a_;have hcell:=hc k hlt;have hsz:=HS.out _ (List.getElem_mem hlt);have HT:Hid (lvs (bl.take (k+1))=lvs (bl.take k)++[qbi bl[k].data.toList]):=hI_ (by rw[qbz hlt];unfold lvs;rw[List.map_append];rfl);have hlk:(lvs (bl.take k)).length=k:=by simp[lvs];omega
    have HLK:=hI_ hlk;clear hc hlk;generalize bl[k]=s at*
    go_wp2_with (first
     |(go_at_call 28;refine(qdt s _ hsz).mono ?_;rintro e w' ⟨rfl,rfl⟩)
     |(at_builtin;refine qcf hown (by rw[HLK.out];omega) hb.size rfl rfl rfl rfl ?_;intro v3 w3 hown3 hb3))
    go_roundw
    case rel=>exact⟨k+1,a_,t_,by rw[HT.out];exact hown3,hb.trans hb3⟩
    case measure=>simp[intOf];omega
  · go_wp2
    go_ret;exact⟨_,rfl,aB_,hb⟩
end Go.Proofs.YtekaaekpdebloaaGreatDoor

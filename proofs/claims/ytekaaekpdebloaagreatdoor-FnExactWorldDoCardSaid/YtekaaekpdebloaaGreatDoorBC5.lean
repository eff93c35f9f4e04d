/- Words and walks of the law. -/
import Derived.Test.YtekaaekpdebloaaGreatDoorBB5
import Derived.Laws.BitsAllLaws
import Derived.Laws.BitsLemmas
set_option linter.unusedVariables false
set_option linter.unusedSimpArgs false
set_option maxHeartbeats 12800000
set_option maxRecDepth 100000
namespace Go.Proofs.YtekaaekpdebloaaGreatDoor
open Go.RowKit

theorem qfh(l:List Int)(v:Value)(w:World)(hv:RI w v l):
 gV 129 #[v] w (.int .i64 (qbN l)):=by
 cases hl:qaE l
 · have ht:qbN l= -1:=by unfold qbN;rw[hl];rfl
   have HT:=hI_ ht;clear ht;have HL:=hI_ hl;clear hl;have HV:=hI_ hv;obtain⟨A,c,rfl,h1,h2,h3⟩:=hv;clear h3;go_enter Tryz.func129,Tryz.ntmps129
   go_wp2_with (go_at_call 203;refine(qco l _ _ HV.out).mono ?_;rw[HL.out];rintro e w' ⟨rfl,rfl⟩)
   go_ret;exact⟨qfp HT.out.symm,bR_ _ _⟩
 · have ht:qbN l=qdI l.length (qbm l 0):=by unfold qbN;rw[hl];rfl
   have HT:=hI_ ht;clear ht;obtain⟨h16,hd⟩:=qaJ.1 hl;have HL:=hI_ hl;clear hl;have HP:Hid (qb7 (qbm l 0)=true):=hI_ (qiH hd h16);have HD:=hI_ hd;have hd16:dig (l.length:Int)=true:=qa4.2 a_;have HV:=hI_ hv;obtain⟨A,c,rfl,h1,h2,h3⟩:=hv;clear h3 hd;have HDG:=hI_ hd16;clear hd16;go_enter Tryz.func129,Tryz.ntmps129
   go_wp2_with (first
    |(go_at_call 203;refine(qco l _ _ HV.out).mono ?_;rw[HL.out];rintro e w' ⟨rfl,rfl⟩)
    |(go_at_call 205;refine(qeu l 0 _ _ HD.out h16 a_ HV.out).mono ?_;rintro e w1 ⟨v1,rfl,ho1,hb1⟩)
    |(go_at_call 204;refine(qgQ _ _ _ _ HDG.out HP.out ho1.r1).mono ?_;rintro e w2 ⟨rfl,rfl⟩))
   go_ret;exact⟨qfp HT.out.symm,hb1⟩

theorem qky{α:Type}{p:α→Bool}{l:List α}{k:Nat}(hk:k<l.length)(h:k≤l.findIdx p)(hp:p l[k]=false):k+1≤l.findIdx p:=by
 rcases Nat.lt_or_ge k (l.findIdx p) with h1|h1
 · exact h1
 · have he:l.findIdx p=k:=a_;have hlt:l.findIdx p<l.length:=a_;have h2:p l[l.findIdx p]=true:=List.findIdx_getElem;simp only[he] at h2;rw[hp] at h2;cases h2
theorem qkz{α:Type}{p:α→Bool}{l:List α}{k:Nat}(hk:k<l.length)(h:k≤l.findIdx p)(hp:p l[k]=true):l.findIdx p=k:=by
 rcases Nat.lt_or_ge k (l.findIdx p) with h1|h1
 · exact absurd hp (by simpa using List.not_of_lt_findIdx h1)
 · omega
theorem qkT(ts:List (Nat×Nat))(i:Nat)(v:Value)(w:World)(hv:RT w v ts)(hb9:∀ t ∈ ts,t.1+t.2≤1000)(hf:ts.findIdx (fun t=>decide (i<t.1+t.2))<ts.length)(hi:i≤1000):
 gV 214 #[v,.int .i64 i] w (.int .i64 ((ts.findIdx (fun t=>decide (i<t.1+t.2)):Nat):Int)):=by
 have HB:=hI_ hb9;clear hb9;have HV:=hI_ hv;have hl:=hv.len;obtain⟨A,c,rfl,h1,h2,h3⟩:=hv;unfold maxLen at hl h2;clear h3;have HF:Hid (∃ f,f=ts.findIdx (fun t=>decide (i<t.1+t.2))∧f<ts.length):=hI_ ⟨_,rfl,hf⟩;clear hf;go_enter Tryz.func214,Tryz.ntmps214
 go_wp2
 go_loopw [9] (fun q wr=>∃ k:Nat,k<ts.length∧q=.int .i64 k∧Hid (k≤ts.findIdx (fun t=>decide (i<t.1+t.2)))∧bB w wr) (fun q _=>ts.length-(intOf q).toNat)
 case atStart=>exact⟨0,by obtain⟨f,_,h⟩:=HF.out;omega,rfl,hI_ (Nat.zero_le _),bR_ _ _⟩
 case round=>
  obtain⟨k,hlt,rfl,HK,hb⟩:=hrel;obtain⟨A',c',hA,_,_,hc⟩:=HV.out.below hb;cases hA;obtain⟨b,o,rfl,hbs,hc⟩:=hc a_;obtain⟨hc1,hc2⟩:=hc k hlt;have hbd:=HB.out _ (List.getElem_mem hlt);simp only[t1,t2] at hc1 hc2;clear hc;by_cases hx:i<ts[k].1+ts[k].2
  · have hx':(i:Int)<(ts[k].1:Int)+ts[k].2:=a_;have HE:=hI_ (qkz hlt HK.out aV_);clear hx;generalize ts[k]=t at*
    go_wp2
    go_ret;exact⟨qfp (by rw[HE.out]),qab hb _⟩
  · have hx':¬ (i:Int)<(ts[k].1:Int)+ts[k].2:=a_;have HE:=hI_ (qky hlt HK.out aV_);have hlt2:k+1<ts.length:=by obtain⟨f,hf1,hf2⟩:=HF.out;have:=HE.out;omega
    clear hx;generalize ts[k]=t at*
    go_wp2
    go_roundw
    case rel=>exact⟨k+1,hlt2,t_,HE,qab hb _⟩
    case measure=>simp[intOf];omega

theorem qj6(n i:Nat)(v:Value)(w:World)(hv:RT w v (qaz 0 n))(hn:n≤16)(hi:i<n):
 gV 214 #[v,.int .i64 i] w (.int .i64 (qbM n i:Nat)):=
 qkT (qaz 0 n) i v w hv (fun t ht=>by have:=(qcW n a_ 0 a_ t ht).1;omega) (qhA n a_ i hi).1 a_
theorem ql2{n i:Nat}(h:qbM n i<(qaz 0 n).length):(qaz 0 n)[qbM n i]=pkT n i:=by
 unfold pkT;rw[List.getD_eq_getElem?_getD,List.getElem?_eq_getElem h];rfl

theorem qdq(a:Nat)(ha:a<9223372036854775808):(BitVec.ofInt 64 (a:Int)).toNat=a:=by
 rw[BitVec.ofInt_natCast,BitVec.toNat_ofNat];exact Nat.mod_eq_of_lt a_
theorem qn0(a b:Nat)(ha:a<65536)(hb:b<65536):bits .xor .i64 (a:Int) (b:Int)=((a ^^^ b:Nat):Int):=by
 have hx:a ^^^ b<2 ^ 16:=Nat.xor_lt_two_pow a_ a_;show IntKind.i64.wrap ((BitVec.ofInt 64 (a:Int) ^^^ BitVec.ofInt 64 (b:Int)).toNat:Int)=_;rw[BitVec.toNat_xor,qdq a a_,qdq b a_,IntKind.wrap_i64];omega
theorem qnv(a b:Nat)(ha:a<65536)(hb:b<65536):bits .and .i64 (a:Int) (b:Int)=((a &&& b:Nat):Int):=by
 have hx:a &&& b<2 ^ 16:=Nat.and_lt_two_pow _ a_;show IntKind.i64.wrap ((BitVec.ofInt 64 (a:Int) &&& BitVec.ofInt 64 (b:Int)).toNat:Int)=_;rw[BitVec.toNat_and,qdq a a_,qdq b a_,IntKind.wrap_i64];omega

theorem qgq(l:List Int)(i:Nat)(v:Value)(w:World)(hv:RI w v l)(hl:qaE l=true)(hi:i<l.length):
 Calls Tryz.prog 144 #[v,.int .i64 i] w fun e w'=>∃ v',e=.returned v'∧O1 (Value.int .i64) w.heap.size 3 w' v' (qcg l i)∧bB w w':=by
 obtain⟨h16,hd⟩:=qaJ.1 hl;have HL:=hI_ hl;clear hl;have HD:=hI_ hd;clear hd;have HV:=hI_ hv;obtain⟨A,c,rfl,h1,h2,h3⟩:=hv;clear h3;obtain⟨p1,p2,p3,p4,p5,p6,p7,p8,p9⟩:=qhA l.length a_ i hi;have HP2:=hI_ p2;have HP7:=hI_ p7;have HB:Hid (inB i 0 ((l.length:Int)-1)=true):=hI_ (qak.2 a_);have HTR:=hI_ (qcW l.length a_ 0 a_);have hTL:=qaY 0 l.length;clear p2 p7 p8 p9 p4 p5 p6;go_enter Tryz.func144,Tryz.ntmps144
 go_wp2_with (first
  |(go_at_call 212;refine(qbr l _ _ HV.out).mono ?_;rw[HL.out];rintro e w' ⟨rfl,rfl⟩)
  |(go_at_call 113;refine(qaO _ _ _ _).mono ?_;rw[HB.out];rintro e w' ⟨rfl,rfl⟩)
  |(go_at_call 213;refine(qbs 0 l.length _ a_ h16).mono ?_;rintro e w1 ⟨v1,rfl,ho1,hb1⟩)
  |(go_at_call 214;refine(qj6 l.length i _ _ ho1.r2 h16 hi).mono ?_;rintro e w2 ⟨rfl,hb2⟩))
 have HR2:=hI_ (ho1.r2.below hb2);have hb12:=qa3 hb1 hb2;obtain⟨A',c',rfl,k1,k2,k3⟩:=id HR2.out;obtain⟨b',o',rfl,kb,kc⟩:=k3 a_;have hl16:2 ^ lev l.length i≤2 ^ 4:=Nat.pow_le_pow_right a_ p3;obtain⟨Z,HZ⟩:=nm_ (2 ^ lev l.length i);have kc2:w2.cell? ⟨b',o'+qbM l.length i*2+1,none⟩=some (.int .i64 (Z:Int)):=by
  rw[(kc _ p1).2,ql2 p1,←HZ.out,←HP2.out];rfl
 rw[HZ.out] at hl16;unfold maxLen at k2 h2;clear kc k3;go_loopw [7,8] (fun out q wr=>∃ j:Nat,j≤lev l.length i∧q=.int .i64 ((2 ^ j:Nat):Int)∧O1 (Value.int .i64) w2.heap.size 3 wr out (qgd l i j)∧bB w2 wr) (fun _ q _=>64-(intOf q).toNat)
 case atStart=>exact⟨0,Nat.zero_le _,rfl,O1.made _ _ _,(bR_ _ _).alloc (nr_ _) _⟩
 case round=>
  obtain⟨j,hj,rfl,hown,hb⟩:=hrel;have kc3:wr.cell? ⟨b',o'+qbM l.length i*2+1,none⟩=some (.int .i64 (Z:Int)):=(hb.cell kb).trans kc2;by_cases hlt:j<lev l.length i
  · have hS1:1≤2 ^ j:=Nat.one_le_two_pow;have hi16:i≤16:=a_;have hS8:2 ^ j≤2 ^ 3:=Nat.pow_le_pow_right a_ a_;have hlt':2 ^ j<Z:=by rw[←HZ.out];exact Nat.pow_lt_pow_right a_ hlt
    have hdm:i/2 ^ j*2 ^ j≤i:=Nat.div_mul_le_self _ _;have hdv:i/2 ^ j≤i:=Nat.div_le_self _ _;have hxor:bits .xor .i64 ((i:Int)/((2 ^ j:Nat):Int)*((2 ^ j:Nat):Int)) ((2 ^ j:Nat):Int)=((sib i j:Nat):Int):=by
     rw[←qnQ i a_ j a_,←qn0 _ _ a_ a_,Int.natCast_mul,Int.natCast_ediv]
    have e1:((i/2 ^ j:Nat):Int)=(i:Int)/((2 ^ j:Nat):Int):=Int.natCast_ediv _ _;have e2:((i/2 ^ j*2 ^ j:Nat):Int)=(i:Int)/((2 ^ j:Nat):Int)*((2 ^ j:Nat):Int):=by rw[Int.natCast_mul,Int.natCast_ediv]
    have b1:0≤(i:Int)/((2 ^ j:Nat):Int):=by rw[←e1];exact Int.natCast_nonneg _
    have b2:(i:Int)/((2 ^ j:Nat):Int)≤16:=by rw[←e1];exact Int.ofNat_le.2 (Nat.le_trans hdv hi16)
    have b3:0≤(i:Int)/((2 ^ j:Nat):Int)*((2 ^ j:Nat):Int):=by rw[←e2];exact Int.natCast_nonneg _
    have b4:(i:Int)/((2 ^ j:Nat):Int)*((2 ^ j:Nat):Int)≤16:=by rw[←e2];exact Int.ofNat_le.2 (Nat.le_trans hdm hi16)
    have hsok:=ql7 l.length a_ i hi j hlt;have HS:=hI_ (qge l i j);have HJ:Hid ((2 ^ (j+1):Nat)=2 ^ j*2):=hI_ (Nat.pow_succ 2 j);clear e1 e2;generalize hS:2 ^ j=S at*
    have HSS:=hI_ hS;clear hS;have hlS:(qgd l i j).length=j:=by simp[qgd]
    have hv2:=HV.out.below (hb12.trans (hb.mono hb12.size));go_wp2_with (first
     |(go_at_call 215;refine(ql5 l HD.out j (sib i j) _ _ _ _ rfl (by rw[HSS.out]) a_ (by rw[HSS.out];exact hsok) hv2).mono ?_;rintro e w4 ⟨rfl,hb4⟩;have hown4:=hown.below hb4;have hbb4:=hb.trans (hb4.mono hb.size))
     |(at_builtin;refine qcf hown4 a_ hbb4.size rfl rfl rfl rfl ?_;intro v5 w5 hown5 hb5))
    go_roundw
    case rel=>exact⟨j+1,a_,ak_,by rw[HS.out];exact hown5,hbb4.trans hb5⟩
    case measure=>simp[intOf];omega
  · obtain rfl:j=lev l.length i:=a_;rw[HZ.out];obtain⟨wo,rfl⟩:∃ wo:World,wo=wr:=⟨_,rfl⟩
    go_wp2
    go_loopw [7,54] (fun out q wr=>∃ j:Nat,j≤(qaz 0 l.length).length∧q=.int .i64 j∧O1 (Value.int .i64) w2.heap.size 3 wr out (qgd l i (lev l.length i)++(((qaz 0 l.length).take j).eraseIdx (qbM l.length i)).map (qdK l))∧bB w2 wr) (fun _ q _=>(qaz 0 l.length).length-(intOf q).toNat)
    case atStart=>exact⟨0,Nat.zero_le _,rfl,by simpa using hown,hb⟩
    case round=>
     obtain⟨j,hj,rfl,hown1,hb'⟩:=hrel;by_cases hlt:j<(qaz 0 l.length).length
     · obtain⟨A'',c'',hA,_,_,hc⟩:=HR2.out.below hb';cases hA;obtain⟨_,_,hA2,hbs,hc⟩:=hc a_;cases hA2
       obtain⟨hc1,hc2⟩:=hc j hlt;clear hc;obtain⟨g1,g2,g3⟩:=HTR.out _ (List.getElem_mem hlt);have HG:=hI_ g2;clear g2;simp only[t1,t2] at hc1 hc2;have HE:=hI_ (qkx (qaz 0 l.length) (qbM l.length i) j hlt);have hle:((qgd l i (lev l.length i))++(((qaz 0 l.length).take j).eraseIdx (qbM l.length i)).map (qdK l)).length≤100:=by
        have:=List.length_eraseIdx_le ((qaz 0 l.length).take j) (qbM l.length i);simp[qgd] at this ⊢;omega
       have hbw2:=hb12.trans (hb'.mono hb12.size);have hv2:=(HV.out.below hbw2).alloc (.cells #[.int .i64 ((qaz 0 l.length)[j].1:Int),.int .i64 ((qaz 0 l.length)[j].2:Int)] 238);have hownA:=hown1.alloc (.cells #[.int .i64 ((qaz 0 l.length)[j].1:Int),.int .i64 ((qaz 0 l.length)[j].2:Int)] 238);have hbA:=hb'.alloc hb'.size (.cells #[.int .i64 ((qaz 0 l.length)[j].1:Int),.int .i64 ((qaz 0 l.length)[j].2:Int)] 238);have hsz:w2.heap.size≤wr.heap.size:=hb'.size;by_cases hk:j=qbM l.length i
       · have hkb:((j:Int)==(qbM l.length i:Int))=true:=by simp[hk]
         have hkn:((j:Int)!=(qbM l.length i:Int))=false:=by simp[hk]
         have HE':=HE.out;rw[if_pos hk,List.append_nil] at HE';have HE2:=hI_ HE';clear HE HE' hk;generalize(qaz 0 l.length)[j]=t at*
         go_wp2
         go_roundw
         case rel=>exact⟨j+1,a_,t_,by rw[HE2.out];exact hownA,hbA⟩
         case measure=>simp[intOf];omega
       · have hkb:((j:Int)==(qbM l.length i:Int))=false:=by simp;omega
         have hkn:((j:Int)!=(qbM l.length i:Int))=true:=by simp;omega
         have HE':=HE.out;rw[if_neg hk] at HE';have HE2:=hI_ HE';clear HE HE' hk;generalize(qaz 0 l.length)[j]=t at*
         go_wp2_with (first
          |(go_at_call 215;refine(ql5 l HD.out t.2.log2 t.1 _ _ _ _ rfl (by rw[HG.out]) g3 (by rw[HG.out];exact g1) hv2).mono ?_;rintro e w6 ⟨rfl,hb6⟩;have hown6:=hownA.below hb6;have hbb6:=hbA.trans (hb6.mono hbA.size))
          |(at_builtin;refine qcf hown6 a_ hbb6.size rfl rfl rfl rfl ?_;intro v7 w7 hown7 hb7))
         go_roundw
         case rel=>exact⟨j+1,a_,t_,by rw[HE2.out,List.map_append,←List.append_assoc];exact hown7,hbb6.trans hb7⟩
         case measure=>simp[intOf];omega
     · obtain rfl:j=(qaz 0 l.length).length:=a_;go_wp2
       go_ret;exact⟨_,rfl,by rw[List.take_length] at hown1;exact hown1.mono hb12.size,hb12.trans (hb'.mono hb12.size)⟩
theorem qgp(l:List Int)(i:Int)(v:Value)(w:World)(hv:RI w v l)(hl:(qaE l&&inB i 0 (l.length-1))=false):
 gS 144 #[v,.int .i64 i] w (.slice none 0 0):=by
 have HV:=hI_ hv;have hm:=hv.len;obtain⟨A,c,rfl,h1,h2,h3⟩:=hv;unfold maxLen at hm;clear h3;cases hx:qaE l
 · have HX:=hI_ hx;clear hl hx;go_enter Tryz.func144,Tryz.ntmps144
   go_wp2_with (go_at_call 212;refine(qbr l _ _ HV.out).mono ?_;rw[HX.out];rintro e w' ⟨rfl,rfl⟩)
   go_ret;exact⟨rfl,rfl⟩
 · rw[hx,Bool.true_and] at hl;have HX:=hI_ hx;have HI:=hI_ hl;clear hl hx;go_enter Tryz.func144,Tryz.ntmps144
   go_wp2_with (first
    |(go_at_call 212;refine(qbr l _ _ HV.out).mono ?_;rw[HX.out];rintro e w' ⟨rfl,rfl⟩)
    |(go_at_call 113;refine(qaO _ _ _ _).mono ?_;rw[HI.out];rintro e w' ⟨rfl,rfl⟩))
   go_ret;exact⟨rfl,rfl⟩
theorem qfE(l:List Int)(i:Int)(v:Value)(w:World)(hv:RI w v l):
 Calls Tryz.prog 144 #[v,.int .i64 i] w fun e w'=>∃ v',e=.returned v'∧O1 (Value.int .i64) w.heap.size 3 w' v' (qaQ l i)∧bB w w':=by
 cases h:qaE l&&inB i 0 (l.length-1)
 · have hp:qaQ l i=[]:=by unfold qaQ;rw[h];rfl
   rw[hp];exact(qgp l i v w hv h).mono fun e w' ⟨he,hw⟩=>by subst hw;exact⟨_,he,O1.nil _ _ _ _,bR_ _ _⟩
 · have hp:qaQ l i=qcg l i.toNat:=by unfold qaQ;rw[h];rfl
   rw[hp];rw[Bool.and_eq_true,qak] at h;obtain⟨h1,h2,h3⟩:=h;obtain⟨k,rfl⟩:=Int.eq_ofNat_of_zero_le h2;exact qgq l k v w hv h1 a_
theorem qgR(n i:Nat)(w:World)(hn:n≤16)(hi:i<n):
 gS 206 #[.int .i64 n,.int .i64 i] w (.tuple #[.int .i64 ((pkT n i).1:Nat),.int .i64 ((pkT n i).2:Nat)]):=by
 have HOK:=hI_ (qoa n a_ i hi);have HSZ:=hI_ (qhA n a_ i hi).2.2.2.2.2.2.2.1;go_enter Tryz.func206,Tryz.ntmps206
 go_wp2
 go_loop [6] (fun q=>∃ f p:Nat,q=.int .i64 p∧p≤i∧17≤f+p∧Hid (pkF f n i p=(pkT n i).1)) (fun q=>64-(intOf q).toNat)
 case atStart=>exact⟨17,0,rfl,a_,a_,HOK⟩
 case round=>
  obtain⟨f,p,rfl,hpi,hf,HF⟩:=hrel;have hb:=qgf (show p<n by omega);by_cases hc:p+sz p n≤i
  · obtain⟨f,rfl⟩:∃ g,f=g+1:=⟨f-1,a_⟩
    have HG:=hI_ (qn9 (f:=f) hc);obtain⟨s,HS⟩:=nm_ (sz p n);rw[HS.out] at hb hc HG;have hc':(p:Int)+(s:Int)≤i:=a_;go_wp2_with (go_at_call 208;refine(qb3 p n _ a_ hn).mono ?_;rw[HS.out];rintro e w' ⟨rfl,rfl⟩)
    go_round
    case rel=>exact⟨f,p+s,t_,a_,a_,hI_ (by rw[←HG.out,HF.out])⟩
    case measure=>simp[intOf];omega
  · have HG:=hI_ (qmT hc f);obtain⟨s,HS⟩:=nm_ (sz p n);rw[HS.out] at hb hc;have hc':(i:Int)<(p:Int)+(s:Int):=a_;have hc2:decide ((p:Int)+(s:Int)≤i)=false:=by simp;omega
    have hp:p=(pkT n i).1:=by rw[←HF.out,HG.out]
    have HP:=hI_ hp;clear hp hc;go_wp2_with (go_at_call 208;refine(qb3 p n _ a_ hn).mono ?_;rw[HS.out];rintro e w' ⟨rfl,rfl⟩)
    go_ret2
    refine⟨?_,rfl⟩;show Ending.returned (Value.tuple #[.int .i64 (p:Int),.int .i64 (s:Int)])=_;rw[HSZ.out,←HP.out,HS.out]

theorem qgs(l:List Int)(i:Nat)(v:Value)(w:World)(hv:RI w v l)(hl:qaE l=true)(hi:i<l.length):
 Calls Tryz.prog 140 #[v,.int .i64 i] w fun e w'=>∃ v',e=.returned v'∧O1 (Value.int .i64) w.heap.size 3 w' v' (qcg l i)∧bB w w':=by
 obtain⟨h16,hd⟩:=qaJ.1 hl;have HL:=hI_ hl;clear hl;have HD:=hI_ hd;clear hd;have HV:=hI_ hv;obtain⟨A,c,rfl,h1,h2,h3⟩:=hv;obtain⟨b,o,rfl,hb0,_⟩:=h3 a_;clear h3;have hc1:=h1.1;unfold maxLen at h2;obtain⟨p1,p2,p3,p4,p5,p6,p7,p8,p9⟩:=qhA l.length a_ i hi;have HP2:=hI_ p2;have HP7:=hI_ p7;have HB:Hid (inB i 0 ((l.length:Int)-1)=true):=hI_ (qak.2 a_);clear p2 p7 p8 p9 p4 p5 p6 h1;have hl16:2 ^ lev l.length i≤2 ^ 4:=Nat.pow_le_pow_right a_ p3;obtain⟨Z,HZ⟩:=nm_ (2 ^ lev l.length i);have HPZ:Hid ((pkT l.length i).2=Z):=hI_ (by rw[HP2.out,HZ.out]);obtain⟨pk,HPK⟩:=nm_ ((pkT l.length i).1);rw[HZ.out] at hl16;go_enter Tryz.func140,Tryz.ntmps140
 go_wp2_with (first
  |(go_at_call 203;refine(qco l _ _ (HV.out.alloc _)).mono ?_;rw[HL.out];rintro e w' ⟨rfl,rfl⟩)
  |(go_at_call 124;refine(qaV _ _ _ _).mono ?_;rw[HB.out];rintro e w' ⟨rfl,rfl⟩)
  |(go_at_call 206;refine(qgR l.length i _ h16 hi).mono ?_;rw[HPZ.out,HPK.out];rintro e w' ⟨rfl,rfl⟩))
 go_loopw [5,9,10] (fun out q _ wr=>∃ j:Nat,j≤lev l.length i∧q=.int .i64 ((2 ^ j:Nat):Int)∧O1 (Value.int .i64) w.heap.size 3 wr out (qgd l i j)∧bB w wr) (fun _ q _ _=>64-(intOf q).toNat)
 case atStart=>exact⟨0,Nat.zero_le _,rfl,O1.made _ _ _,(bR_ _ _).alloc (nr_ _) _⟩
 case round=>
  obtain⟨j,hj,rfl,hown,hb⟩:=hrel;by_cases hlt:j<lev l.length i
  · have hS1:1≤2 ^ j:=Nat.one_le_two_pow;have hi16:i≤16:=a_;have hS8:2 ^ j≤2 ^ 3:=Nat.pow_le_pow_right a_ a_;have hlt':2 ^ j<Z:=by rw[←HZ.out];exact Nat.pow_lt_pow_right a_ hlt
    have hdm:i/2 ^ j*2 ^ j≤i:=Nat.div_mul_le_self _ _;have hdv:i/2 ^ j≤i:=Nat.div_le_self _ _;have e1:(i:Int)/((2 ^ j:Nat):Int)=((i/2 ^ j:Nat):Int):=(Int.natCast_ediv _ _).symm;have e2:((i/2 ^ j:Nat):Int)*((2 ^ j:Nat):Int)=((i/2 ^ j*2 ^ j:Nat):Int):=(Int.natCast_mul _ _).symm;have e3:((i/2 ^ j*2 ^ j:Nat):Int)/((2 ^ j:Nat):Int)=((i/2 ^ j:Nat):Int):=by rw[←Int.natCast_ediv,qmF i a_ j a_]
    have hsok:=ql7 l.length a_ i hi j hlt;have HS:=hI_ (qge l i j);have HJ:Hid ((2 ^ (j+1):Nat)=2 ^ j*2):=hI_ (Nat.pow_succ 2 j);have hsd:sib i j=if i/2 ^ j%2=0 then i/2 ^ j*2 ^ j+2 ^ j else i/2 ^ j*2 ^ j-2 ^ j:=rfl
    have hge:¬ i/2 ^ j%2=0→2 ^ j≤i/2 ^ j*2 ^ j:=fun h=>Nat.le_mul_of_pos_left _ (Nat.pos_of_ne_zero fun h0=>h (by rw[h0]));have HT:Hid (qb7 ((l.drop (sib i j)).take (2 ^ j))=true):=hI_ (qcb (qc0 HD.out _) _);have HLN:Hid (((l.drop (sib i j)).take (2 ^ j)).length=2 ^ j):=hI_ n_;have HR:Hid (qbU ((l.drop (sib i j)).take (2 ^ j)) j 0=qbU l j (sib i j)):=hI_ (by rw[qcG _ _ a_,qcZ,Nat.add_zero]);have hrd:=R1.take (R1.drop (HV.out.below hb) (m:=sib i j) a_) (m:=2 ^ j) n_;have hlS:(qgd l i j).length=j:=by simp[qgd]
    generalize(l.drop (sib i j)).take (2 ^ j)=lt at*
    generalize hS:2 ^ j=S at*
    have HSS:=hI_ hS;clear hS;generalize hD:i/S=D at*
    generalize hM:D*S=M at*
    clear hD hM;by_cases hpar:D%2=0
    · have hpi:(D:Int)%2=0:=a_;rw[if_pos hpar] at hsd;generalize sib i j=sb at*
      have e4:(M:Int)+(S:Int)=(sb:Int):=a_;clear hsd hpar hge;go_wp2_with (first
       |(go_at_call 207;refine(qfz j lt _ _ HT.out a_ (by rw[HSS.out];exact HLN.out) hrd).mono ?_;rw[HR.out];rintro e w4 ⟨rfl,hb4⟩;have hown4:=hown.below hb4;have hbb4:=hb.trans (hb4.mono hb.size))
       |(at_builtin;refine qcf hown4 a_ hbb4.size rfl rfl rfl rfl ?_;intro v5 w5 hown5 hb5))
      go_roundw
      case rel=>exact⟨j+1,a_,ak_,by rw[HS.out];exact hown5,hbb4.trans hb5⟩
      case measure=>simp[intOf];omega
    · have hpi:((D:Int)%2==0)=false:=by simp;omega
      rw[if_neg hpar] at hsd;have hge2:=hge hpar;generalize sib i j=sb at*
      have e4:(M:Int)-(S:Int)=(sb:Int):=a_;clear hsd hpar hge;go_wp2_with (first
       |(go_at_call 207;refine(qfz j lt _ _ HT.out a_ (by rw[HSS.out];exact HLN.out) hrd).mono ?_;rw[HR.out];rintro e w4 ⟨rfl,hb4⟩;have hown4:=hown.below hb4;have hbb4:=hb.trans (hb4.mono hb.size))
       |(at_builtin;refine qcf hown4 a_ hbb4.size rfl rfl rfl rfl ?_;intro v5 w5 hown5 hb5))
      go_roundw
      case rel=>exact⟨j+1,a_,ak_,by rw[HS.out];exact hown5,hbb4.trans hb5⟩
      case measure=>simp[intOf];omega
  · obtain rfl:j=lev l.length i:=a_;rw[HZ.out];go_wp2
    go_loopw [5,11] (fun out q wr=>∃ (p:Nat) (l1:List Int),p≤l.length∧q=.int .i64 p∧O1 (Value.int .i64) w.heap.size 3 wr out l1∧l1.length≤100∧
     Hid (l1++(qbP l.length i p).map (qdK l)=qcg l i)∧bB w wr) (fun _ q _=>l.length-(intOf q).toNat)
    case atStart=>exact⟨0,_,Nat.zero_le _,rfl,hown,by simp[qgd];omega,hI_ (by unfold qcg others;rw[HP7.out];rfl),hb⟩
    case round=>
     obtain⟨p,l1,hpl,rfl,hown1,hl1,HX,hb1⟩:=hrel;by_cases hlt:p<l.length
     · obtain⟨hs1,hs2⟩:=qgf hlt;have HST:=hI_ (qf8 (i:=i) hlt h16);have hmem:(p,sz p l.length) ∈ qaz p l.length:=by rw[qcH hlt h16];simp
       obtain⟨g1,g2,g3⟩:=qcW l.length a_ p a_ _ hmem;have HTD:=hI_ (qcb (qc0 HD.out p) (sz p l.length));have HR:Hid (qbU ((l.drop p).take (sz p l.length)) (sz p l.length).log2 0=qdK l (p,sz p l.length)):=hI_ (by rw[qcG _ _ (by simp only at g2;omega),qcZ,Nat.add_zero];rfl);have HLL:Hid (((l.drop p).take (sz p l.length)).length=2 ^ (sz p l.length).log2):=hI_ (by simp only at g2;rw[g2];simp;omega);have hrd:=R1.take (R1.drop (HV.out.below hb1) (m:=p) a_) (m:=sz p l.length) n_;simp only at g1 g3;clear hmem g2;rw[HPK.out] at HST;generalize(sz p l.length).log2=lg at*
       generalize(l.drop p).take (sz p l.length)=lt at*
       generalize hr:qdK l (p,sz p l.length)=rt at*
       have HRT:=hI_ hr;clear hr;generalize hs:sz p l.length=s at*
       have HSZ:=hI_ hs;clear hs;by_cases hk:p=pk
       · have hkb:((p:Int)==(pk:Int))=true:=by simp[hk]
         have hkn:((p:Int)!=(pk:Int))=false:=by simp[hk]
         have HS2:=HST.out;rw[if_pos hk] at HS2;have HS3:=hI_ HS2;clear HS2 HST hk;go_wp2_with (go_at_call 208;refine(qb3 p l.length _ a_ h16).mono ?_;rw[HSZ.out];rintro e w' ⟨rfl,rfl⟩)
         go_roundw
         case rel=>exact⟨p+s,l1,a_,t_,hown1,hl1,hI_ (by rw[←HX.out,HS3.out];rfl),hb1⟩
         case measure=>simp[intOf];omega
       · have hkb:((p:Int)==(pk:Int))=false:=by simp;omega
         have hkn:((p:Int)!=(pk:Int))=true:=by simp;omega
         have HS2:=HST.out;rw[if_neg hk] at HS2;have HS3:=hI_ HS2;have hl2:(qbP l.length i p).length≤17:=qgY _ _ _;have hl3:l1.length+(qbP l.length i p).length=(qcg l i).length:=by rw[←HX.out];simp
         have hl4:(qcg l i).length≤40:=by
          have:=qgY l.length i 0;unfold qcg others;rw[HP7.out];simp[qgd];unfold qbP at this;omega
         clear HS2 HST hk;go_wp2_with (first
          |(go_at_call 208;refine(qb3 p l.length _ a_ h16).mono ?_;rw[HSZ.out];rintro e w' ⟨rfl,rfl⟩)
          |(go_at_call 207;refine(qfz lg lt _ _ HTD.out g3 HLL.out hrd).mono ?_;rw[HR.out];rintro e w4 ⟨rfl,hb4⟩;have hown4:=hown1.below hb4;have hbb4:=hb1.trans (hb4.mono hb1.size))
          |(at_builtin;refine qcf hown4 a_ hbb4.size rfl rfl rfl rfl ?_;intro v5 w5 hown5 hb5))
         go_roundw
         case rel=>exact⟨p+s,l1++[rt],a_,t_,hown5,n_,hI_ (by rw[←HX.out,HS3.out,List.map_append,←List.append_assoc,←HRT.out];rfl),hbb4.trans hb5⟩
         case measure=>simp[intOf];omega
     · have hz:=qgw (i:=i) (show l.length≤p by omega);have HXX:=HX.out;rw[hz,List.map_nil,List.append_nil] at HXX;have HX2:=hI_ HXX;clear HXX hz;go_wp2
       go_ret;exact⟨_,rfl,by rw[←HX2.out];exact hown1,hb1⟩
theorem qgr(l:List Int)(i:Int)(v:Value)(w:World)(hv:RI w v l)(hl:(qaE l&&inB i 0 (l.length-1))=false):
 Calls Tryz.prog 140 #[v,.int .i64 i] w fun e w'=>∃ v',e=.returned v'∧O1 (Value.int .i64) w.heap.size 3 w' v' []∧bB w w':=by
 have HV:=hI_ hv;have hm:=hv.len;obtain⟨A,c,rfl,h1,h2,h3⟩:=hv;unfold maxLen at hm;clear h3;cases hx:qaE l
 · have HX:=hI_ hx;clear hl hx;go_enter Tryz.func140,Tryz.ntmps140
   go_wp2_with (go_at_call 203;refine(qco l _ _ (HV.out.alloc _)).mono ?_;rw[HX.out];rintro e w' ⟨rfl,rfl⟩)
   go_ret;exact⟨_,rfl,O1.made _ _ _,(bR_ _ _).alloc (nr_ _) _⟩
 · rw[hx,Bool.true_and] at hl;have HX:=hI_ hx;have HI:=hI_ hl;clear hl hx;go_enter Tryz.func140,Tryz.ntmps140
   go_wp2_with (first
    |(go_at_call 203;refine(qco l _ _ (HV.out.alloc _)).mono ?_;rw[HX.out];rintro e w' ⟨rfl,rfl⟩)
    |(go_at_call 124;refine(qaV _ _ _ _).mono ?_;rw[HI.out];rintro e w' ⟨rfl,rfl⟩))
   go_ret;exact⟨_,rfl,O1.made _ _ _,(bR_ _ _).alloc (nr_ _) _⟩
theorem qem(l:List Int)(i:Int)(v:Value)(w:World)(hv:RI w v l):
 Calls Tryz.prog 140 #[v,.int .i64 i] w fun e w'=>∃ v',e=.returned v'∧O1 (Value.int .i64) w.heap.size 3 w' v' (qaQ l i)∧bB w w':=by
 cases h:qaE l&&inB i 0 (l.length-1)
 · have hp:qaQ l i=[]:=by unfold qaQ;rw[h];rfl
   rw[hp];exact qgr l i v w hv h
 · have hp:qaQ l i=qcg l i.toNat:=by unfold qaQ;rw[h];rfl
   rw[hp];rw[Bool.and_eq_true,qak] at h;obtain⟨h1,h2,h3⟩:=h;obtain⟨k,rfl⟩:=Int.eq_ofNat_of_zero_le h2;exact qgs l k v w hv h1 a_
theorem qjt(dg leaf:Int)(n i:Nat)(l:List Int)(v:Value)(w:World)(hv:RI w v l)(hn:n≤16)(hi:i<n)(hlf:dig leaf=true)(hd:qb7 l=true):
 gS 275 #[.int .i64 dg,.int .i64 n,.int .i64 i,.int .i64 leaf,v] w (.bool (qbl dg n i leaf l)):=by
 have HLF:=hI_ hlf;clear hlf;have HD:=hI_ hd;clear hd;have hm:=hv.len;obtain⟨A,c,rfl,h1,h2,h3⟩:=hv;unfold maxLen at hm;obtain⟨p1,p2,p3,p4,p5,p6,p7,p8,p9⟩:=qhA n a_ i hi;have HP2:=hI_ p2;clear p2 p7 p8 p9 p4 p5 p6 h1;have hl16:2 ^ lev n i≤2 ^ 4:=Nat.pow_le_pow_right a_ p3;obtain⟨Z,HZ⟩:=nm_ (2 ^ lev n i);have HPZ:Hid ((pkT n i).2=Z):=hI_ (by rw[HP2.out,HZ.out]);obtain⟨pk,HPK⟩:=nm_ ((pkT n i).1);rw[HZ.out] at hl16;go_enter Tryz.func275,Tryz.ntmps275
 go_wp2_with (go_at_call 206;refine(qgR n i _ hn hi).mono ?_;rw[HPZ.out,HPK.out];rintro e w' ⟨rfl,rfl⟩)
 go_loop [13,14,15] (fun r u q=>∃ j:Nat,j≤lev n i∧j≤l.length∧q=.int .i64 ((2 ^ j:Nat):Int)∧u=.int .i64 j∧r=.int .i64 (qb0 i 0 leaf (l.take j))) (fun _ _ q=>64-(intOf q).toNat)
 case atStart=>exact⟨0,Nat.zero_le _,Nat.zero_le _,rfl,rfl,rfl⟩
 case round=>
  obtain⟨j,hj,hjl,rfl,rfl,rfl⟩:=hrel;by_cases hlt:j<lev n i
  · have hS1:1≤2 ^ j:=Nat.one_le_two_pow;have hS8:2 ^ j≤2 ^ 3:=Nat.pow_le_pow_right a_ a_;have hlt':2 ^ j<Z:=by rw[←HZ.out];exact Nat.pow_lt_pow_right a_ hlt
    have hdv:i/2 ^ j≤i:=Nat.div_le_self _ _;have e1:(i:Int)/((2 ^ j:Nat):Int)=((i/2 ^ j:Nat):Int):=(Int.natCast_ediv _ _).symm;have HJ:Hid ((2 ^ (j+1):Nat)=2 ^ j*2):=hI_ (Nat.pow_succ 2 j);by_cases hend:j=l.length
    · have hcs:qbl dg n i leaf l=false:=qfJ _ _ _ a_;have HC:=hI_ hcs;clear hcs;generalize hS:2 ^ j=S at*
      clear hS HJ e1 hdv;have hje:((j:Int)==(l.length:Int))=true:=by simp[hend]
      go_wp2
      go_ret;exact⟨qaM HC.out.symm,rfl⟩
    · have hjl':j<l.length:=a_;obtain⟨b,o,rfl,hb,hc⟩:=h3 a_;have hcell:=hc j hjl';have HS:=hI_ (qec i (l.take j) 0 leaf l[j]);have HT:=hI_ (qbz hjl');have HDX:=hI_ (qdc HD.out hjl');have HDR:=hI_ (qc7 i (l.take j) 0 leaf HLF.out);have hlj:(l.take j).length=j:=by simp;omega
      have HLJ:=hI_ hlj;have hje:((j:Int)==(l.length:Int))=false:=by simp;omega
      clear hc h3 hlj;have HST:Hid (qb0 i 0 leaf (l.take (j+1))=if i/2 ^ j%2=0 then qbo (qb0 i 0 leaf (l.take j)) l[j] else qbo l[j] (qb0 i 0 leaf (l.take j))):=
       hI_ (by rw[HT.out,HS.out,HLJ.out,Nat.zero_add])
      clear HS HT HLJ;generalize qb0 i 0 leaf (l.take j)=r at*
      generalize l[j]=x at*
      generalize hS:2 ^ j=S at*
      have HSS:=hI_ hS;clear hS;generalize i/S=D at*
      by_cases hpar:D%2=0
      · have hpi:(D:Int)%2=0:=a_;have HX:Hid (qb0 i 0 leaf (l.take (j+1))=qbo r x):=hI_ (by rw[HST.out,if_pos hpar]);clear HST hpar;go_wp2_with (go_at_call 256;refine(qcn _ _ _ HDR.out HDX.out).mono ?_;rintro e w' ⟨rfl,rfl⟩)
        go_round
        case rel=>exact⟨j+1,a_,a_,ak_,t_,aM_⟩
        case measure=>simp[intOf];omega
      · have hpi:((D:Int)%2==0)=false:=by simp;omega
        have HX:Hid (qb0 i 0 leaf (l.take (j+1))=qbo x r):=hI_ (by rw[HST.out,if_neg hpar]);clear HST hpar;go_wp2_with (go_at_call 256;refine(qcn _ _ _ HDX.out HDR.out).mono ?_;rintro e w' ⟨rfl,rfl⟩)
        go_round
        case rel=>exact⟨j+1,a_,a_,ak_,t_,aM_⟩
        case measure=>simp[intOf];omega
  · obtain rfl:j=lev n i:=a_;have HCK:=hI_ (qks hn hi dg leaf l hjl);have HDR:=hI_ (qc7 i (l.take (lev n i)) 0 leaf HLF.out);have hdn:dig (n:Int)=true:=qa4.2 a_;have HDN:=hI_ hdn;clear hdn;rw[HZ.out];generalize qb0 i 0 leaf (l.take (lev n i))=r at*
    go_wp2
    go_loop [14,16,17] (fun u t q=>∃ (p used:Nat) (out:Int),p≤n∧used≤l.length∧q=.int .i64 p∧u=.int .i64 used∧t=.int .i64 out∧Hid (dig out=true)∧
     Hid (qkU dg r (qe2 n i p) out (l.drop used)=qbl dg n i leaf l)) (fun _ _ q=>n-(intOf q).toNat)
    case atStart=>exact⟨0,lev n i,n,Nat.zero_le _,hjl,rfl,rfl,rfl,HDN,HCK⟩
    case round=>
     obtain⟨p,used,out,hpn,hul,rfl,rfl,rfl,HDO,HX⟩:=hrel;by_cases hlt:p<n
     · obtain⟨hs1,hs2⟩:=qgf hlt;have HF:=hI_ (qkA (i:=i) hlt hn);rw[HPK.out] at HF;generalize hs:sz p n=s at*
       have HSZ:=hI_ hs;clear hs;by_cases hk:p=pk
       · have hkb:((p:Int)==(pk:Int))=true:=by simp[hk]
         have HF2:Hid (qe2 n i p=true::qe2 n i (p+s)):=hI_ (by rw[HF.out];simp[hk]);clear HF hk;go_wp2_with (first
          |(go_at_call 208;refine(qb3 p n _ a_ hn).mono ?_;rw[HSZ.out];rintro e w' ⟨rfl,rfl⟩)
          |(go_at_call 256;refine(qcn _ _ _ HDO.out HDR.out).mono ?_;rintro e w' ⟨rfl,rfl⟩))
         go_round
         case rel=>exact⟨p+s,used,_,a_,hul,t_,rfl,rfl,hI_ (qb4 _ _),hI_ (by rw[←HX.out,HF2.out];rfl)⟩
         case measure=>simp[intOf];omega
       · have hkb:((p:Int)==(pk:Int))=false:=by simp;omega
         have HF2:Hid (qe2 n i p=false::qe2 n i (p+s)):=hI_ (by rw[HF.out];simp[hk]);clear HF hk;by_cases hend:used=l.length
         · have hue:((used:Int)==(l.length:Int))=true:=by simp[hend]
           have hcs:qbl dg n i leaf l=false:=by rw[←HX.out,HF2.out,hend,List.drop_length];rfl
           have HC:=hI_ hcs;clear hcs;go_wp2
           go_ret;exact⟨qaM HC.out.symm,rfl⟩
         · have hue:((used:Int)==(l.length:Int))=false:=by simp;omega
           have hul':used<l.length:=a_;obtain⟨b,o,rfl,hb,hc⟩:=h3 a_;have hcell:=hc used hul';have HDX:=hI_ (qdc HD.out hul');have HDP:Hid (l.drop used=l[used]::l.drop (used+1)):=hI_ (List.drop_eq_getElem_cons hul');clear hc h3;generalize l[used]=x at*
           go_wp2_with (first
            |(go_at_call 208;refine(qb3 p n _ a_ hn).mono ?_;rw[HSZ.out];rintro e w' ⟨rfl,rfl⟩)
            |(go_at_call 256;refine(qcn _ _ _ HDO.out HDX.out).mono ?_;rintro e w' ⟨rfl,rfl⟩))
           go_round
           case rel=>exact⟨p+s,used+1,_,a_,a_,t_,t_,rfl,hI_ (qb4 _ _),hI_ (by rw[←HX.out,HF2.out,HDP.out];rfl)⟩
           case measure=>simp[intOf];omega
     · have hf:=qlA (i:=i) (show n≤p by omega);have HX2:=HX.out;rw[hf] at HX2;have HX3:=hI_ HX2;clear HX2 hf;by_cases hend:used=l.length
       · have hue:((used:Int)==(l.length:Int))=true:=by simp[hend]
         have HX4:Hid (qbl dg n i leaf l=(out==dg)):=hI_ (by rw[←HX3.out,hend,List.drop_length];rfl);clear hend;go_wp2
         go_ret;exact⟨qaM HX4.out.symm,rfl⟩
       · have hue:((used:Int)==(l.length:Int))=false:=by simp;omega
         have HX4:Hid (qbl dg n i leaf l=false):=hI_ (by
          rw[←HX3.out,List.drop_eq_getElem_cons (show used<l.length by omega)];rfl)
         clear hend;go_wp2
         go_ret;exact⟨qaM HX4.out.symm,rfl⟩
end Go.Proofs.YtekaaekpdebloaaGreatDoor

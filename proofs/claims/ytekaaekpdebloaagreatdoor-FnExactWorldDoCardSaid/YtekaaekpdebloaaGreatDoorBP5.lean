/- Words and walks of the law. -/
import Derived.Test.YtekaaekpdebloaaGreatDoorBO5
set_option linter.unusedVariables false
set_option linter.unusedSimpArgs false
set_option maxHeartbeats 12800000
set_option maxRecDepth 100000
namespace Go.Proofs.YtekaaekpdebloaaGreatDoor
open Go.RowKit

theorem O1.takeM{α:Type}{enc:α→Value}{B:Nat}{e:TypeId}{w:World}{A:Option Addr}{n c m:Nat}{l:List α}(h:O1 enc B e w (.slice A n c) l)(hm:m≤l.length):O1 enc B e w (.slice A m c) (l.take m):=by
 have hl:(l.take m).length=m:=by simp;omega
 refine⟨k_,?_⟩;rcases h.2 with⟨hv,h0⟩|⟨g,cap,cur,hv,hg,hh,hn,hc,hs,ht⟩
 · injection hv with h1 h2 h3
   have hm0:m=0:=a_;refine .inl ⟨?_,by rw[hl];exact hm0⟩;rw[h1,h3,hm0]
 · injection hv with h1 h2 h3
   refine .inr ⟨g,cap,cur,by rw[h1,h3,hl],hg,hh,a_,hc,hs,?_⟩;rw[hl];have:=congrArg (List.take m) ht;rw[List.take_take,←List.map_take] at this;simpa[Nat.min_eq_left hm] using this
theorem qha{l:List Int}{d:Int}(h:Hid (qbN l=d))(v:Value)(w:World)(hv:RI w v l):gV 151 #[v] w (.int .i64 d):=by
 rw[←h.out];exact qdN l v w hv
theorem qep{l:List Int}{b:Bool}(h:Hid (qaE l=b))(v:Value)(w:World)(hv:RI w v l):gS 212 #[v] w (.bool b):=by
 rw[←h.out];exact qbr l v w hv
theorem qkk(s:Int)(l:List Int)(v:Value)(w:World)(hv:RI w v l):Calls Tryz.prog 155 #[.int .i64 s,v] w (qd3 (qbJ s l).1 (qbJ s l).2 w):=by
 have HV:=hI_ hv;obtain⟨A,c,rfl,n1,n2,_⟩:=hv;unfold maxLen at n2;have hbm:l.length≤9223372036854775807:=by have:=n1.1;omega
 clear n1 n2;obtain⟨b1,HK⟩:=nm_ (key s);obtain⟨b2,HL⟩:=nm_ (qaE l);have hb0:bB w (w.alloc (.cells #[.int .i64 0,.int .i64 0,.int .i64 0] 46)):=(bR_ _ _).alloc (nr_ _) _;have hr0:=HV.out.below hb0;have HB0:=hI_ hb0;have HR0:=hI_ hr0;clear hb0 hr0;cases b1
 · have HR:Hid (qbJ s l=(Hd.zero,false)):=hI_ (by unfold qbJ;rw[HK.out];rfl);rw[HR.out];go_enter Tryz.func155,Tryz.ntmps155
   go_wp2_with (first
    |(go_at_call 149;refine(qbK HK _).mono ?_;rintro e w' ⟨rfl,rfl⟩)
    |(go_at_call 212;refine(qep HL _ _ HR0.out).mono ?_;rintro e w' ⟨rfl,rfl⟩))
   exact bodyPost_ret (v:=.tuple #[.agg #[.int .i64 0,.int .i64 0,.int .i64 0],.bool false]) (by simp[results,Tryz.results155,go_sem]) rfl ⟨rfl,by repeat(first|exact HB0.out|exact bR_ _ _|refine Below.setCell ?_ (nr_ _) _|refine Below.alloc ?_ (nr_ _) _)⟩
 cases b2
 · have HR:Hid (qbJ s l=(Hd.zero,false)):=hI_ aE_;rw[HR.out];go_enter Tryz.func155,Tryz.ntmps155
   go_wp2_with (first
    |(go_at_call 149;refine(qbK HK _).mono ?_;rintro e w' ⟨rfl,rfl⟩)
    |(go_at_call 212;refine(qep HL _ _ HR0.out).mono ?_;rintro e w' ⟨rfl,rfl⟩))
   exact bodyPost_ret (v:=.tuple #[.agg #[.int .i64 0,.int .i64 0,.int .i64 0],.bool false]) (by simp[results,Tryz.results155,go_sem]) rfl ⟨rfl,by repeat(first|exact HB0.out|exact bR_ _ _|refine Below.setCell ?_ (nr_ _) _|refine Below.alloc ?_ (nr_ _) _)⟩
 · have HR:Hid (qbJ s l=(⟨l.length,qbN l,s*(qbo l.length (qbN l)+1)%997⟩,true)):=hI_ aE_;rw[HR.out];obtain⟨s1,s2⟩:=qcd.1 HK.out;have hl16:=(qaJ.1 HL.out).1;have hd1:dig (l.length:Int)=true:=qa4.2 a_;have hd2:=qgj HL.out;have hp:=qdW l.length (qbN l);obtain⟨d,HD⟩:=nm_ (qbN l);obtain⟨m,HM⟩:=nm_ (qbo l.length d+1);rw[HD.out] at hd2 hp;rw[HD.out];show Calls _ _ _ _ (qd3 ⟨l.length,d,s*(qbo l.length d+1)%997⟩ true w);rw[HM.out];have hm1:1≤m∧m≤991:=by have:=HM.out;omega
   have hsm:0≤s*m∧s*m≤996*991:=⟨Int.mul_nonneg a_ a_,Int.mul_le_mul a_ a_ a_ a_⟩
   have HD1:=hI_ hd1;have HD2:=hI_ hd2;clear hp hd1 hd2;have hz0:(w.alloc (.cells #[.int .i64 0,.int .i64 0,.int .i64 0] 46)).heap[w.heap.size]? =some (.cells #[.int .i64 0,.int .i64 0,.int .i64 0] 46 (0,0)):=heap_alloc_new w _;have HZ0:=hI_ hz0;clear hz0;go_enter Tryz.func155,Tryz.ntmps155
   go_wp2_with (first
    |(go_at_call 149;refine(qbK HK _).mono ?_;rintro e w' ⟨rfl,rfl⟩)
    |(go_at_call 212;refine(qep HL _ _ HR0.out).mono ?_;rintro e w' ⟨rfl,rfl⟩))
   refine(qha HD _ _ HR0.out).mono ?_;rintro e w1 ⟨rfl,hb1⟩;have hz1:=(hb1.block w.heap.size (qlU _ _)).trans HZ0.out;have hl1:w.heap.size<w1.heap.size:=(Array.getElem?_eq_some_iff.1 hz1).1;have HB1:Hid (bB w w1):=hI_ (HB0.out.trans (hb1.mono HB0.out.size));obtain⟨z0,z1,z2,zf⟩:=qhg hz1;have HZ1:=hI_ hz1;clear hz1 hb1;obtain⟨W1,HW1⟩:=nm_ (w1.alloc (.cells #[.int .i64 l.length,.int .i64 d,.int .i64 0] 46));have hbw1:bB w1 W1:=by rw[←HW1.out];exact(bR_ _ _).alloc (nr_ _) _
   have hq1:W1.heap[w1.heap.size]? =some (.cells #[.int .i64 l.length,.int .i64 d,.int .i64 0] 46 (0,0)):=by rw[←HW1.out];exact heap_alloc_new w1 _
   have lq1:w1.heap.size<W1.heap.size:=(Array.getElem?_eq_some_iff.1 hq1).1;have HQ1:=hI_ hq1;have HBW1:=hI_ hbw1;clear hq1 hbw1;go_wp2_with fail
   rw[HW1.out];refine(qf6 HM W1 HD1.out HD2.out).mono ?_;rintro e w2 ⟨rfl,hb2⟩;clear z0 z1 z2 zf;obtain⟨z0,z1,z2,zf⟩:=qhg ((hb2.block _ (nL_ hl1 HBW1.out.size)).trans ((HBW1.out.block _ hl1).trans HZ1.out));obtain⟨y0,y1,y2,yf⟩:=qhg ((hb2.block _ lq1).trans HQ1.out);have hl2:w.heap.size<w2.heap.size:=nL_ hl1 (Nat.le_trans HBW1.out.size hb2.size);have lq2:w1.heap.size<w2.heap.size:=nL_ lq1 hb2.size;have HB2:Hid (bB w w2):=hI_ ((HB1.out.trans (HBW1.out.mono HB1.out.size)).trans (hb2.mono (Nat.le_trans HB1.out.size HBW1.out.size)));have HSZ:=hI_ HB1.out.size;clear hb2;have hne:w.heap.size≠w1.heap.size:=a_;go_wp2
   refine bodyPost_ret (v:=.tuple #[.agg #[.int .i64 l.length,.int .i64 d,.int .i64 (s*m%997)],.bool true]) (by simp[results,Tryz.results155,go_sem,z0,z1,z2]) rfl ⟨rfl,?_⟩;repeat(first|exact HB2.out|refine Below.setCell ?_ (by first|exact nr_ _|exact HSZ.out) _)
theorem qi0{s:Int}{l:List Int}{h:Hd}{ok:Bool}(hh:Hid (qbJ s l=(h,ok)))(v:Value)(w:World)(hv:RI w v l):Calls Tryz.prog 155 #[.int .i64 s,v] w (qd3 h ok w):=by
 have:=qkk s l v w hv;rw[hh.out] at this;exact this
theorem qbn(q n cF:Nat)(AF:Option Addr)(p:Int)(w:World)(h:w.cell? ⟨q,2,none⟩=some (.slice AF n cF))(hn:n≤maxLen):
 gS 109 #[.pointer (some ⟨q,0,none⟩),.int .i64 p] w (.bool (inB p 0 ((n:Int)-1))):=by
 unfold maxLen at hn;go_enter Tryz.func109,Tryz.ntmps109
 go_wp2_with (go_at_call 113;refine(qaO _ _ _ _).mono ?_;rintro e w' ⟨rfl,rfl⟩)
 go_ret;exact⟨rfl,rfl⟩
def qmz(a b:Int×Int):Int:=if a.1=b.1 then a.2-b.2 else a.1-b.1
theorem qlm(a b:Int×Int):ltL a b=decide (qmz a b<0):=by
 unfold ltL qmz;rw[Bool.eq_iff_iff,decide_eq_true_eq,decide_eq_true_eq];split <;> omega
theorem qje(a b:Int×Int)(n:Nat)(w:World)(hn:n≤maxLen)(ha:0≤a.1∧a.1<n∧0≤a.2∧a.2<n)(hb:0≤b.1∧b.1<n∧0≤b.2∧b.2<n):
 gV 153 #[.agg #[.int .i64 a.1,.int .i64 a.2],.agg #[.int .i64 b.1,.int .i64 b.2]] w (.int .i64 (qmz a b)):=by
 unfold maxLen at hn;have HB:Hid (bB w ((w.alloc (.cells #[.int .i64 a.1,.int .i64 a.2] 99)).alloc (.cells #[.int .i64 b.1,.int .i64 b.2] 99))):=hI_ (((bR_ _ _).alloc (nr_ _) _).alloc k_ _);obtain⟨a1,a2,a3,a4⟩:=ha;obtain⟨b1,b2,b3,b4⟩:=hb;by_cases h1:a.1=b.1
 · have h1':(a.1 !=b.1)=false:=by simp[h1]
   have HC:Hid (qmz a b=a.2-b.2):=hI_ (by unfold qmz;rw[if_pos h1]);clear h1;go_enter Tryz.func153,Tryz.ntmps153
   go_wp2
   go_ret;exact⟨qfp HC.out.symm,HB.out⟩
 · have h1':(a.1 !=b.1)=true:=by simp[h1]
   have HC:Hid (qmz a b=a.1-b.1):=hI_ (by unfold qmz;rw[if_neg h1]);clear h1;go_enter Tryz.func153,Tryz.ntmps153
   go_wp2
   go_ret;exact⟨qfp HC.out.symm,HB.out⟩
theorem qh8{a b:Int×Int}{r:Int}(h:Hid (qmz a b=r))(n:Nat)(w:World)(hn:n≤maxLen)(ha:0≤a.1∧a.1<n∧0≤a.2∧a.2<n)(hb:0≤b.1∧b.1<n∧0≤b.2∧b.2<n):
 gV 153 #[.agg #[.int .i64 a.1,.int .i64 a.2],.agg #[.int .i64 b.1,.int .i64 b.2]] w (.int .i64 r):=by
 rw[←h.out];exact qje a b n w hn ha hb
theorem qj2(fs:List Fd)(n q:Nat)(vF:Value)(w:World)(hq:w.cell? ⟨q,2,none⟩=some vF)(hF:qa6 w vF fs)(h0:0<fs.length)(hn:n≤(fs.getD 0 Fd.none).bl.length)(h16:(fs.getD 0 Fd.none).bl.length≤16)(hs:∀ t ∈ (fs.getD 0 Fd.none).bl,t.size≤8):
 Calls Tryz.prog 145 #[.pointer (some ⟨q,0,none⟩),.int .i64 n] w fun e w'=>∃ v',e=.returned v'∧O1 (Value.int .i64) w.heap.size 3 w' v' ((lvs (fs.getD 0 Fd.none).bl).take n)∧bB w w':=by
 obtain⟨A,c,rfl⟩:=hF.sl;obtain⟨b0,o,x,y,rfl,hbs,c0,c1,c2,c3,c4,c5,c6⟩:=hF.at0 h0;have hm:=hF.len;unfold maxLen at hm;generalize fs.getD 0 Fd.none=f at*
 have h0i:(0:Int)<(fs.length:Int):=a_;have HT:=hI_ c6.bl;have HS:=hI_ hs;clear c6 hs hF;go_enter Tryz.func145,Tryz.ntmps145
 go_wp2_with fail
 refine(qeb f.pub f.hd x y f.bl w HT.out a_ HS.out).mono ?_;rintro e w1 ⟨v1,rfl,ho,hb1⟩;obtain⟨A1,d1,rfl⟩:=ho.sl;have hll:(lvs f.bl).length=f.bl.length:=qcP _;have hlen:n≤(lvs f.bl).length:=a_;have hcap:(lvs f.bl).length≤d1∧d1≤9223372036854775807:=by
  obtain⟨_,_,e0,q1,q2,_⟩:=ho.r1;cases e0
  unfold maxLen at q2;exact⟨q1.1,q2⟩
 obtain⟨hc1,hc2⟩:=hcap;have hnd:n≤d1:=a_;have HO:=hI_ (ho.takeM hlen);have HB:=hI_ hb1;clear ho hb1 hll;go_wp2
 go_ret;exact⟨_,rfl,HO.out,HB.out⟩
theorem qiy(q n cF:Nat)(AF:Option Addr)(l:List (Int×Int))(vL:Value)(w:World)(h2:w.cell? ⟨q,2,none⟩=some (.slice AF n cF))(h3:w.cell? ⟨q,3,none⟩=some vL)(hL:RP w vL l)(hn:n≤maxLen)(hq:q<w.heap.size):
 gV 72 #[.pointer (some ⟨q,0,none⟩)] w (.bool (qcE n l)):=by
 obtain⟨A,c,rfl⟩:=hL.sl;have HV:=hI_ hL;have hm:=hL.len;have HM:=hI_ hn;have HC2:=hI_ h2;have HC3:=hI_ h3;unfold maxLen at hm hn;clear hL;go_enter Tryz.func72,Tryz.ntmps72
 go_wp2
 clear h2 h3;go_loopw [10] (fun i wr=>∃ k:Nat,k≤l.length∧i=.int .i64 k∧qdv k (qdV n l)=true∧bB w wr) (fun i _=>l.length-(intOf i).toNat)
 case atStart=>exact⟨0,Nat.zero_le _,rfl,qb9,bR_ _ _⟩
 case round=>
  obtain⟨k,hk,rfl,hno,hbw⟩:=hrel;have HNO:=hI_ hno;have HBW:=hI_ hbw;clear hno hbw;by_cases hlt:k<l.length
  case neg=>
   obtain rfl:k=l.length:=a_;go_wp2
   go_ret;exact⟨qaM HNO.out.symm,HBW.out⟩
  obtain⟨b',o,rfl,hbs,e0,e1⟩:=(HV.out.below HBW.out).at_ hlt;have hki:(k:Int)<(l.length:Int):=a_;have hk0:(0:Int)≤(k:Int):=a_;obtain⟨y,HYE⟩:=nm_ (l[k]);obtain⟨bp,HPR⟩:=nm_ ((k==0||ltL (l.getD (k-1) (0,0)) y));have HAT:Hid (qdV n l k=(inB y.1 0 ((n:Int)-1)&&inB y.2 (y.1+1) ((n:Int)-1)&&bp)):=hI_ (by unfold qdV qc5;rw[qam hlt,HYE.out,HPR.out]);rw[HYE.out] at e0 e1;obtain⟨W1,HW1⟩:=nm_ (wr.alloc (.cells #[.int .i64 y.1,.int .i64 y.2] 99));have HBU:Hid (bB w W1):=hI_ aF_;have hq1:W1.heap[wr.heap.size]? =some (.cells #[.int .i64 y.1,.int .i64 y.2] 99 (0,0)):=by rw[←HW1.out];exact heap_alloc_new wr _
  have q0:W1.cell? ⟨wr.heap.size,0,none⟩=some (.int .i64 y.1):=cell_of_row _ _ 0 _ _ _ hq1;have q1:W1.cell? ⟨wr.heap.size,1,none⟩=some (.int .i64 y.2):=cell_of_row _ _ 1 _ _ _ hq1;have lq:wr.heap.size<W1.heap.size:=(Array.getElem?_eq_some_iff.1 hq1).1;have u2:W1.cell? ⟨q,2,none⟩=_:=(HBU.out.cell (p:=⟨q,2,none⟩) hq).trans HC2.out;have u3:W1.cell? ⟨q,3,none⟩=_:=(HBU.out.cell (p:=⟨q,3,none⟩) hq).trans HC3.out;have lpu:=nL_ hq HBU.out.size;obtain⟨_,_,hAe,hbs1,f0,f1⟩:=(HV.out.below HBU.out).at_ hlt;cases hAe
  rw[HYE.out] at f0 f1;clear hq1;have hup:=qap W1;cases h1:inB y.1 0 ((n:Int)-1)
  · go_wp2
    rw[HW1.out];refine qoH ?_;repeat(go_big_quiet_step ((go_at_call 109;exact qaj (qbn _ n cF AF _ _ ((hup _ _ _ lpu).trans u2) HM.out))))
    refine wq_ fun w1 hb1=>?_;clear hup;go_wp2
    go_ret;exact⟨qaM (qcp hlt (by rw[HAT.out];rw[h1];rfl)).symm,HBU.out.trans (hb1.mono HBU.out.size)⟩

  obtain⟨hy0,hy1⟩:=qak.1 h1;cases h2:inB y.2 0 ((n:Int)-1)
  · go_wp2
    rw[HW1.out];refine qoH ?_;repeat(go_big_quiet_step ((go_at_call 109;exact qaj (qbn _ n cF AF _ _ ((hup _ _ _ lpu).trans u2) HM.out))))
    refine wq_ fun w1 hb1=>?_;clear hup;go_wp2
    go_ret;exact⟨qaM (qcp hlt (by rw[HAT.out];rw[h1,show inB y.2 (y.1+1) ((n:Int)-1)=false from qfT.2 (by have:=qfT.1 h2;omega)];rfl)).symm,HBU.out.trans (hb1.mono HBU.out.size)⟩

  obtain⟨hy2,hy3⟩:=qak.1 h2;by_cases hge:y.2≤y.1
  · go_wp2
    rw[HW1.out];refine qoH ?_;repeat(go_big_quiet_step ((go_at_call 109;exact qaj (qbn _ n cF AF _ _ ((hup _ _ _ lpu).trans u2) HM.out))))
    refine wq_ fun w1 hb1=>?_;clear hup;go_wp2
    go_ret;exact⟨qaM (qcp hlt (by rw[HAT.out];rw[h1,show inB y.2 (y.1+1) ((n:Int)-1)=false from qfT.2 a_];rfl)).symm,HBU.out.trans (hb1.mono HBU.out.size)⟩

  have dge:decide (y.2≤y.1)=false:=by rw[decide_eq_false_iff_not];exact hge
  have HIN:Hid (inB y.2 (y.1+1) ((n:Int)-1)=true):=hI_ (qak.2 a_);have HYR:Hid (0≤y.1∧y.1<n∧0≤y.2∧y.2<n):=hI_ a_;by_cases hk00:k=0
  · have HBP:Hid (bp=true):=hI_ (by rw[←HPR.out,hk00];rfl);have dk:decide (0<k)=false:=by rw[decide_eq_false_iff_not];omega
    clear hk00;go_wp2
    rw[HW1.out];refine qoH ?_;repeat(go_big_quiet_step ((go_at_call 109;exact qaj (qbn _ n cF AF _ _ ((hup _ _ _ lpu).trans u2) HM.out))))
    refine wq_ fun w1 hb1=>?_;clear hup;go_wp2
    go_roundw
    case rel=>exact⟨k+1,a_,t_,qbh HNO.out aW_,HBU.out.trans (hb1.mono HBU.out.size)⟩
    case measure=>simp[intOf];omega

  have hkp:(0:Int)<(k:Int):=a_;have hkn:0<k:=a_;obtain⟨m,hkm⟩:∃ m:Nat,(k:Int)-1=(m:Int):=⟨k-1,a_⟩
  have hmk:m<l.length:=a_;have hmk2:m<k:=a_;obtain⟨_,_,hAe,_,g0,g1⟩:=(HV.out.below HBU.out).at_ hmk;cases hAe
  have hm0:(0:Int)≤(m:Int):=a_;have hmi:(m:Int)<(l.length:Int):=a_;have HPZ:Hid (bp=ltL l[m] y):=hI_ (by rw[←HPR.out,show k-1=m by omega,qam hmk];simp[hk00]);have HZR:Hid (0≤l[m].1∧l[m].1<n∧0≤l[m].2∧l[m].2<n):=hI_ (by
   have hz:=qcS.1 HNO.out m hmk2;unfold qdV qc5 at hz;rw[qam hmk] at hz;simp only[Bool.and_eq_true] at hz;have i1:=qak.1 hz.1.1;have i2:=qak.1 hz.1.2;omega)
  generalize l[m]=z at*
  obtain⟨r,HCM⟩:=nm_ (qmz z y);by_cases hr:r<0
  · have hr':¬ 0≤r:=a_;have dr:decide (0≤r)=false:=by rw[decide_eq_false_iff_not];exact hr'
    have HBP:Hid (bp=true):=hI_ (by rw[HPZ.out,qlm,HCM.out];simp[hr]);go_wp2
    rw[HW1.out];refine qoH ?_;repeat(go_big_quiet_step (first
     |(go_at_call 109;exact qaj (qbn _ n cF AF _ _ ((hup _ _ _ lpu).trans u2) HM.out))
     |(go_at_call 153;exact qal (qh8 HCM n _ HM.out HZR.out HYR.out))))
    refine wq_ fun w1 hb1=>?_;clear hup;go_wp2
    go_roundw
    case rel=>exact⟨k+1,a_,t_,qbh HNO.out aW_,HBU.out.trans (hb1.mono HBU.out.size)⟩
    case measure=>simp[intOf];omega

  · have hr':0≤r:=a_;have HBP:Hid (bp=false):=hI_ (by rw[HPZ.out,qlm,HCM.out];simp;omega);go_wp2
    rw[HW1.out];refine qoH ?_;repeat(go_big_quiet_step (first
     |(go_at_call 109;exact qaj (qbn _ n cF AF _ _ ((hup _ _ _ lpu).trans u2) HM.out))
     |(go_at_call 153;exact qal (qh8 HCM n _ HM.out HZR.out HYR.out))))
    refine wq_ fun w1 hb1=>?_;clear hup;go_wp2
    go_ret;exact⟨qaM (qcp hlt aW_).symm,HBU.out.trans (hb1.mono HBU.out.size)⟩

theorem qhC(a1 a2 a3 b1 b2 b3:Int)(w:World):
 (binOp .neq 46 (.agg #[.int .i64 a1,.int .i64 a2,.int .i64 a3]) (.agg #[.int .i64 b1,.int .i64 b2,.int .i64 b3])).run Tryz.prog w=.ok (.bool (!(a1==b1&&a2==b2&&a3==b3))) w:=by
 rw[run_neq_struct,run_equalIn_agg _ _ _ _ _ d_ d_];by_cases h1:a1=b1 <;> by_cases h2:a2=b2 <;> by_cases h3:a3=b3 <;> simp[go_sem,h1,h2,h3]
theorem qbC{s:ByteArray}{d:Int}(h:Hid (qbi s.data.toList=d))(w:World)(hs:s.size≤8):gS 28 #[.string s] w (.int .i64 d):=by
 rw[←h.out];exact qdt s w hs

theorem qjj(fs:List Fd)(f:Fd)(q:Nat)(s b:Int)(vF vL vK vN va vh:Value)(w:World)(hbox:w.heap[q]? =some (.cells #[.int .i64 s,.int .i64 b,vF,vL,vK,vN] 28 (0,0)))(hF:qa6 w vF fs)(hf:qaU w f va vh)(h0:0<fs.length)(hv0:qaq (fs.getD 0 Fd.none)=true):
 gV 73 #[.pointer (some ⟨q,0,none⟩),.agg #[.int .i64 f.pub,.int .i64 f.hd.len,.int .i64 f.hd.dg,.int .i64 f.hd.sg,va,vh]] w (.bool (qcy s (fs.getD 0 Fd.none) f)):=by
 obtain⟨P0,⟨L,D,S⟩,bl,hv⟩:=f;obtain⟨hbl,hhv⟩:=hf;simp only at hbl hhv ⊢;obtain⟨vA,vc,rfl⟩:=hF.sl;obtain⟨xA,xc,rfl⟩:=hbl.sl';obtain⟨yA,yc,rfl⟩:=hhv.sl';obtain⟨W0,HW0⟩:=nm_ (w.alloc (.cells #[.int .i64 P0,.int .i64 L,.int .i64 D,.int .i64 S,.slice xA bl.length xc,.slice yA hv.length yc] 50));have HB0:Hid (bB w W0):=hI_ q_;have lw:q<w.heap.size:=(Array.getElem?_eq_some_iff.1 hbox).1;have hp:=(HB0.out.block q lw).trans hbox;have hq:W0.heap[w.heap.size]? =some (.cells #[.int .i64 P0,.int .i64 L,.int .i64 D,.int .i64 S,.slice xA bl.length xc,.slice yA hv.length yc] 50 (0,0)):=by rw[←HW0.out];exact heap_alloc_new w _
 have lp:=(Array.getElem?_eq_some_iff.1 hp).1;have lq:=(Array.getElem?_eq_some_iff.1 hq).1;have HF:=hI_ (hF.below HB0.out);have HX:=hI_ (hbl.below HB0.out);have HY:=hI_ (hhv.below HB0.out);obtain⟨b0,o,z0x,z1x,rfl,hbs,c0,c1,c2,c3,c4,c5,c6⟩:=HF.out.at0 h0;have HF0:=hI_ c6;obtain⟨zA,zc,rfl⟩:=c6.bl.sl';have hm:=hF.len;unfold maxLen at hm;obtain⟨f0,HF00⟩:=nm_ (fs.getD 0 Fd.none);rw[HF00.out] at HF0 hv0 c0 c1 c2 c3 c4 ⊢;have HV0:=hI_ hv0;obtain⟨g1,g2,g3,g4⟩:=qdU hv0;have G4:=hI_ g4;have G1:=hI_ g1;obtain⟨p0,p1,p2,p3,p4,p5,pf⟩:=qaa hp;obtain⟨q0,q1,q2,q3,q4,q5,qf⟩:=qaa hq;have HP:=hI_ hp;have HQ:=hI_ hq;have h0i:(0:Int)<(fs.length:Int):=a_;have HZ0:=hI_ c4;have HL0:=hI_ c1;clear hF hbl hhv hp hq c6 hv0 g4 c0 c2 c3 c5 g1 g2 hbox;obtain⟨bv,HV⟩:=nm_ (qaq ⟨P0,⟨L,D,S⟩,bl,hv⟩);obtain⟨p,HPU⟩:=nm_ (qhr s);have HRF:Hid (qaU W0 ⟨P0,⟨L,D,S⟩,bl,hv⟩ (.slice xA bl.length xc) (.slice yA hv.length yc)):=hI_ ⟨HX.out,HY.out⟩;have HFK:Hid (qcy s f0 ⟨P0,⟨L,D,S⟩,bl,hv⟩=(bv&&P0==p&&decide (L≤f0.hd.len)&&(L==0||qlJ ⟨L,D,S⟩ (qbJ s ((lvs f0.bl).take L.toNat)).1)&&qdv bl.length (qb8 f0 ⟨P0,⟨L,D,S⟩,bl,hv⟩))):=hI_ (by unfold qcy;rw[HV.out,HPU.out]);cases bv
 · have hup:=qap W0;go_enter Tryz.func73,Tryz.ntmps73
   go_wp2_with fail
   rw[HW0.out];refine qoH ?_;repeat(go_big_quiet_step (first
    |(go_at_call 70;exact qal (qbp HV _ _ _ (HRF.out.below (qao _ _))))
    |(go_at_call 154;exact qaj (qcr HPU _))))
   refine wq_ fun w1 hb1=>?_;clear hup;go_wp2
   go_ret;exact⟨qaM (by rw[HFK.out];rfl),HB0.out.trans (hb1.mono HB0.out.size)⟩
 obtain⟨l1,l2,l3,l4⟩:=qdU HV.out;have L4:=hI_ l4;clear l4;simp only at l1 l2 l3;subst l1;have L2:=hI_ l2;clear l2;by_cases hpe:P0=p
 case neg=>
  have hpe':(P0 !=p)=true:=by simp[hpe]
  have hup:=qap W0;go_enter Tryz.func73,Tryz.ntmps73
  go_wp2_with fail
  rw[HW0.out];refine qoH ?_;repeat(go_big_quiet_step (first
   |(go_at_call 70;exact qal (qbp HV _ _ _ (HRF.out.below (qao _ _))))
   |(go_at_call 154;exact qaj (qcr HPU _))))
  refine wq_ fun w1 hb1=>?_;clear hup;go_wp2
  go_ret;exact⟨qaM (by rw[HFK.out,show(P0==p)=false by simp[hpe]];rfl),HB0.out.trans (hb1.mono HB0.out.size)⟩
 have hpe':(P0 !=p)=false:=by simp[hpe]
 have HPE:Hid ((P0==p)=true):=hI_ (by simp[hpe]);clear hpe;by_cases hle:f0.hd.len<(bl.length:Int)
 · have hup:=qap W0;have HLE:Hid (decide ((bl.length:Int)≤f0.hd.len)=false):=hI_ (by rw[decide_eq_false_iff_not];omega);go_enter Tryz.func73,Tryz.ntmps73
   go_wp2_with fail
   rw[HW0.out];refine qoH ?_;repeat(go_big_quiet_step (first
    |(go_at_call 70;exact qal (qbp HV _ _ _ (HRF.out.below (qao _ _))))
    |(go_at_call 154;exact qaj (qcr HPU _))))
   refine wq_ fun w1 hb1=>?_;clear hup;go_wp2
   go_ret;exact⟨qaM (by rw[HFK.out,HLE.out,Bool.and_false];rfl),HB0.out.trans (hb1.mono HB0.out.size)⟩
 have HLE:Hid (decide ((bl.length:Int)≤f0.hd.len)=true):=hI_ (by rw[decide_eq_true_eq];omega);have hlb:bl.length≤f0.bl.length:=by have:=G1.out;omega
 have dle:decide (f0.hd.len<(bl.length:Int))=false:=by rw[decide_eq_false_iff_not];exact hle
 obtain⟨h,ok,HH⟩:∃ h ok,Hid (qbJ s ((lvs f0.bl).take bl.length)=(h,ok)):=⟨_,_,hI_ rfl⟩
 have HFR:Hid (qcy s f0 ⟨P0,⟨(bl.length:Int),D,S⟩,bl,hv⟩=(((bl.length:Int)==0||qlJ ⟨bl.length,D,S⟩ h)&&qdv bl.length (qb8 f0 ⟨P0,⟨bl.length,D,S⟩,bl,hv⟩))):=hI_ (by rw[HFK.out,HPE.out,HLE.out,Int.toNat_natCast,HH.out];rfl);clear hle;by_cases hz:bl.length=0
 · have hup:=qap W0;have hz':((bl.length:Int)==0)=true:=by simp[hz]
   have HZ':=hI_ hz';have HAZ:Hid (qdv bl.length (qb8 f0 ⟨P0,⟨bl.length,D,S⟩,bl,hv⟩)=true):=hI_ (by rw[hz];rfl);have hzi:(bl.length:Int)=0:=a_;have HZI:=hI_ hzi;clear hz hzi;go_enter Tryz.func73,Tryz.ntmps73
   go_wp2_with fail
   rw[HW0.out];refine qoH ?_;repeat(go_big_quiet_step (first
    |(go_at_call 70;exact qal (qbp HV _ _ _ (HRF.out.below (qao _ _))))
    |(go_at_call 154;exact qaj (qcr HPU _))))
   refine wq_ fun w1 hb1=>?_;clear hup;have hb1':=hI_ hb1;clear p0 p1 p2 p3 p4 p5 pf q0 q1 q2 q3 q4 q5 qf;obtain⟨p0,p1,p2,p3,p4,p5,pf⟩:=qaa ((hb1.block _ lp).trans HP.out);obtain⟨q0,q1,q2,q3,q4,q5,qf⟩:=qaa ((hb1.block _ lq).trans HQ.out);go_wp2
   go_ret;exact⟨qaM (by rw[HFR.out,HZ'.out,HAZ.out];rfl),HB0.out.trans (hb1.mono HB0.out.size)⟩
 have hz':((bl.length:Int)==0)=false:=by simp[hz]
 have HZ':=hI_ hz';have hup:=qap W0;go_enter Tryz.func73,Tryz.ntmps73
 go_wp2_with fail
 rw[HW0.out];refine qoH ?_;repeat(go_big_quiet_step (first
  |(go_at_call 70;exact qal (qbp HV _ _ _ (HRF.out.below (qao _ _))))
  |(go_at_call 154;exact qaj (qcr HPU _))))
 refine wq_ fun w1 hb1=>?_;clear hup;have hb1':=hI_ hb1;have hsz0:W0.heap.size≤w1.heap.size:=hb1.size;obtain⟨pp0,pp1,pp2,pp3,pp4,pp5,ppf⟩:=qaa HP.out;obtain⟨qq0,qq1,qq2,qq3,qq4,qq5,qqf⟩:=qaa HQ.out;clear qq0 qq2 qq3 qq4 qq5;clear p0 p1 p2 p3 p4 p5 pf q0 q1 q2 q3 q4 q5 qf;obtain⟨p0,p1,p2,p3,p4,p5,pf⟩:=qaa ((hb1.block _ lp).trans HP.out);obtain⟨q0,q1,q2,q3,q4,q5,qf⟩:=qaa ((hb1.block _ lq).trans HQ.out);have lq1:=nL_ lq hsz0;have heq:∀ w:World,(binOp .neq 46 (.agg #[.int .i64 h.len,.int .i64 h.dg,.int .i64 h.sg]) (.agg #[.int .i64 (bl.length:Int),.int .i64 D,.int .i64 S])).run Tryz.prog w=.ok (.bool (!qlJ ⟨bl.length,D,S⟩ h)) w:=fun w=>by
  rw[qhC];unfold qlJ;simp only;rw[BEq.comm (a:=h.len),BEq.comm (a:=h.dg),BEq.comm (a:=h.sg)]
 clear dle c1 c4 hb1;go_wp2
 clear p0 p1 p2 p3 p4 p5 pf q0 q1 q2 q3 q4 q5 qf;go_region_held3 (fun w'=>w'.cell? ⟨q,0,none⟩=some (.int .i64 s)∧w'.cell? ⟨q,1,none⟩=some (.int .i64 b)∧w'.cell? ⟨q,2,none⟩=some (.slice (some ⟨b0,o,none⟩) fs.length vc)∧w'.cell? ⟨q,3,none⟩=some (vL)∧w'.cell? ⟨q,4,none⟩=some (vK)∧w'.cell? ⟨q,5,none⟩=some (vN)∧w'.cell? ⟨w.heap.size,1,none⟩=some (.int .i64 (bl.length:Int)))
  (exact⟨(Below.cell f_ lp).trans pp0,(Below.cell f_ lp).trans pp1,(Below.cell f_ lp).trans pp2,(Below.cell f_ lp).trans pp3,(Below.cell f_ lp).trans pp4,(Below.cell f_ lp).trans pp5,(Below.cell f_ lq).trans qq1⟩)
  (first
    |(go_at_call 145;refine(qj2 fs bl.length q _ _ ((Below.cell f_ lp).trans pp2) (HF.out.below f_) h0 (by rw[HF00.out];exact hlb) a8_ aU_).mono ?_;rintro e w2 ⟨v2,rfl,ho2,hb2⟩;rw[HF00.out] at ho2
      have hbm:bB W0 w2:=qcI f_ b_ hb2;have hsz2:=hbm.size;try(have hz2:=(hb2.block _ (qlU _ _)).trans (heap_alloc_new _ _);obtain⟨a0,a1,a2,af⟩:=qhg hz2))
    |(go_at_call 155;refine(qi0 HH _ _ (by first|exact ho2.r1|exact(ho2.alloc _).r1)).mono ?_;rintro e w3 ⟨rfl,hb3⟩
      have hbn:bB W0 w3:=qcI f_ b_ hb3;have hsz3:=hbn.size;try(have hz3:=(hb3.block _ (qlU _ _)).trans (heap_alloc_new _ _);obtain⟨a0,a1,a2,af⟩:=qhg hz3)
      try(have hz3:=(hb3.block _ (Array.getElem?_eq_some_iff.1 hz2).1).trans hz2;obtain⟨a0,a1,a2,af⟩:=qhg hz3)))
 all_goals(
  obtain⟨r0,r1,r2,r3,r4,r5,rf⟩:=qaa ((hbn.block _ lq).trans HQ.out);have n2:=nL_ lq hsz2;have n3:=nL_ lq hsz3;cases hde:qlJ ⟨bl.length,D,S⟩ h
  · rw[hde] at heq;go_wp2
    go_ret;exact⟨qaM (by rw[HFR.out,HZ'.out,hde];rfl),HB0.out.trans (Below.mono f_ HB0.out.size)⟩
  · rw[hde] at heq;have HFS:Hid (qcy s f0 ⟨P0,⟨(bl.length:Int),D,S⟩,bl,hv⟩=qdv bl.length (qb8 f0 ⟨P0,⟨bl.length,D,S⟩,bl,hv⟩)):=hI_ (by rw[HFR.out,HZ'.out,hde];rfl);go_wp2
    go_loopw [60] (fun i wr=>∃ k:Nat,k≤bl.length∧i=.int .i64 k∧qdv k (qb8 f0 ⟨P0,⟨bl.length,D,S⟩,bl,hv⟩)=true∧bB W0 wr) (fun i _=>bl.length-(intOf i).toNat)
    case atStart=>exact⟨0,Nat.zero_le _,rfl,qb9,f_⟩
    case round=>
     obtain⟨k,hk,rfl,hno,hbw⟩:=hrel;have HNO:=hI_ hno;have HBW:=hI_ hbw;clear hno r0 r1 r2 r3 r4 r5 rf heq;obtain⟨p0,p1,p2,p3,p4,p5,pf⟩:=qaa ((hbw.block _ lp).trans HP.out);obtain⟨q0,q1,q2,q3,q4,q5,qf⟩:=qaa ((hbw.block _ lq).trans HQ.out);have lpr:=nL_ lp hbw.size;have lqr:=nL_ lq hbw.size;have lbr:=nL_ hbs hbw.size;have c4:=(hbw.cell (p:=⟨b0,o+4,none⟩) hbs).trans HZ0.out;clear hbw;by_cases hlt:k<bl.length
     case neg=>
      obtain rfl:k=bl.length:=a_;go_wp2
      go_ret;exact⟨qaM (by rw[HFS.out,HNO.out]),HB0.out.trans (HBW.out.mono HB0.out.size)⟩
     have hlt2:k<hv.length:=by have:=L2.out;omega
     have hlt3:k<f0.bl.length:=a_;obtain⟨t1,i1,rfl,s1,d1⟩:=(HX.out.below HBW.out).get hlt;obtain⟨t2,i2,rfl,s2,d2⟩:=(HY.out.below HBW.out).get hlt2;obtain⟨t3,i3,rfl,s3,d3⟩:=(HF0.out.bl.below HBW.out).get hlt3;have hki:(k:Int)<(bl.length:Int):=a_;have hki2:(k:Int)<(hv.length:Int):=a_;have hki3:(k:Int)<(f0.bl.length:Int):=a_;have hk0:(0:Int)≤(k:Int):=a_;obtain⟨e1,E1⟩:=nm_ (qbi bl[k].data.toList);obtain⟨e3,E3⟩:=nm_ (qbi f0.bl[k].data.toList);have Z1:Hid (bl[k].size≤8):=hI_ (L4.out _ (List.getElem_mem hlt));have Z3:Hid (f0.bl[k].size≤8):=hI_ (G4.out _ (List.getElem_mem hlt3));have HBA:Hid (qb8 f0 ⟨P0,⟨bl.length,D,S⟩,bl,hv⟩ k=(!hv[k]||e1==e3)):=hI_ (by unfold qb8;simp only;rw[qam hlt,qam hlt2,qam hlt3,E1.out,E3.out]);generalize bl[k]=u1 at*
     generalize hv[k]=u2 at*
     generalize f0.bl[k]=u3 at*
     have hup:=qap wr;cases u2
     · go_wp2
       refine qoH ?_;repeat(go_big_quiet_step (first
        |(go_at_call_of 28 (Value.string u1);exact qaj (qbC E1 _ Z1.out))
        |(go_at_call 28;exact qaj (qbC E3 _ Z3.out))))
       refine wq_ fun w9 hb9=>?_;clear hup;go_wp2
       go_roundw
       case rel=>exact⟨k+1,a_,t_,qbh HNO.out au_,HBW.out.trans (hb9.mono HBW.out.size)⟩
       case measure=>simp[intOf];omega
     by_cases hee:e1=e3
     · have hee':(e1 !=e3)=false:=a7_;have HE:Hid ((e1==e3)=true):=hI_ a7_;go_wp2
       refine qoH ?_;repeat(go_big_quiet_step (first
        |(go_at_call_of 28 (Value.string u1);exact qaj (qbC E1 _ Z1.out))
        |(go_at_call 28;exact qaj (qbC E3 _ Z3.out))))
       refine wq_ fun w9 hb9=>?_;clear hup;go_wp2
       go_roundw
       case rel=>exact⟨k+1,a_,t_,qbh HNO.out au_,HBW.out.trans (hb9.mono HBW.out.size)⟩
       case measure=>simp[intOf];omega
     · have hee':(e1 !=e3)=true:=a7_;have HE:Hid ((e1==e3)=false):=hI_ a7_;clear hee;go_wp2
       refine qoH ?_;repeat(go_big_quiet_step (first
        |(go_at_call_of 28 (Value.string u1);exact qaj (qbC E1 _ Z1.out))
        |(go_at_call 28;exact qaj (qbC E3 _ Z3.out))))
       refine wq_ fun w9 hb9=>?_;clear hup;go_wp2
       go_ret;exact⟨qaM (qie hlt (by rw[HBA.out,HE.out];rfl)).symm,HB0.out.trans ((HBW.out.trans (hb9.mono HBW.out.size)).mono HB0.out.size)⟩)
theorem qiK(fs:List Fd)(p:Pc)(s b:Int)(q:Nat)(vF vL vK vN vp:Value)(w:World)(hbox:w.heap[q]? =some (.cells #[.int .i64 s,.int .i64 b,vF,vL,vK,vN] 28 (0,0)))(hF:qa6 w vF fs)(hp:RI w vp p.prf)(h0:0<fs.length)(hv0:qaq (fs.getD 0 Fd.none)=true)(ht:p.txt.size≤maxLen):
 gV 74 #[.pointer (some ⟨q,0,none⟩),.agg #[.int .i64 p.fr,.int .i64 p.to_,.int .i64 p.len,.int .i64 p.idx,.string p.txt,vp]] w (.bool (qaX fs.length (fs.getD 0 Fd.none) p)):=by
 obtain⟨fr,to_,len,idx,txt,prf⟩:=p;simp only at hp ht ⊢;obtain⟨vA,vc,rfl⟩:=hF.sl;obtain⟨xA,xc,rfl⟩:=hp.sl';obtain⟨W0,HW0⟩:=nm_ (w.alloc (.cells #[.int .i64 fr,.int .i64 to_,.int .i64 len,.int .i64 idx,.string txt,.slice xA prf.length xc] 57));have HB0:Hid (bB w W0):=hI_ q_;have lw:q<w.heap.size:=(Array.getElem?_eq_some_iff.1 hbox).1;have hpb:=(HB0.out.block q lw).trans hbox;have hq:W0.heap[w.heap.size]? =some (.cells #[.int .i64 fr,.int .i64 to_,.int .i64 len,.int .i64 idx,.string txt,.slice xA prf.length xc] 57 (0,0)):=by rw[←HW0.out];exact heap_alloc_new w _
 have lp:=(Array.getElem?_eq_some_iff.1 hpb).1;have lq:=(Array.getElem?_eq_some_iff.1 hq).1;have HF:=hI_ (hF.below HB0.out);have HX:=hI_ (hp.below HB0.out);obtain⟨b0,o,z0x,z1x,rfl,hbs,c0,c1,c2,c3,c4,c5,c6⟩:=HF.out.at0 h0;have hm:=hF.len;have HMM:=hI_ hm;unfold maxLen at hm ht;obtain⟨f0,HF00⟩:=nm_ (fs.getD 0 Fd.none);rw[HF00.out] at hv0 c1 ⊢;obtain⟨g1,g2,g3,g4⟩:=qdU hv0;have G4:=hI_ g4;have G1:=hI_ g1;obtain⟨p0,p1,p2,p3,p4,p5,pf⟩:=qaa hpb;obtain⟨q0,q1,q2,q3,q4,q5,qf⟩:=qaa hq;have h0i:(0:Int)<(fs.length:Int):=a_;clear hbox hF hp hpb hq c6 hv0 g4 c0 c2 c3 c4 c5 g1 g2;have hup:=qap W0;cases h1:inB fr 0 ((fs.length:Int)-1)
 · go_enter Tryz.func74,Tryz.ntmps74
   go_wp2_with fail
   rw[HW0.out];refine qoH ?_;repeat(go_big_quiet_step (first
    |(go_at_call 109;exact qaj (qbn _ fs.length vc (some ⟨b0,o,none⟩) _ _ ((hup _ _ _ lp).trans p2) HMM.out))
    |(go_at_call 113;exact qaj (qaO _ _ _ _))))
   refine wq_ fun w1 hb1=>?_;clear hup;go_wp2
   go_ret;exact⟨qaM (by unfold qaX;simp only[h1];simp),HB0.out.trans (hb1.mono HB0.out.size)⟩
 cases h2:inB to_ 0 ((fs.length:Int)-1)
 · go_enter Tryz.func74,Tryz.ntmps74
   go_wp2_with fail
   rw[HW0.out];refine qoH ?_;repeat(go_big_quiet_step (first
    |(go_at_call 109;exact qaj (qbn _ fs.length vc (some ⟨b0,o,none⟩) _ _ ((hup _ _ _ lp).trans p2) HMM.out))
    |(go_at_call 113;exact qaj (qaO _ _ _ _))))
   refine wq_ fun w1 hb1=>?_;clear hup;go_wp2
   go_ret;exact⟨qaM (by unfold qaX;simp only[h1,h2];simp),HB0.out.trans (hb1.mono HB0.out.size)⟩
 cases h3:inB len 1 f0.hd.len
 · go_enter Tryz.func74,Tryz.ntmps74
   go_wp2_with fail
   rw[HW0.out];refine qoH ?_;repeat(go_big_quiet_step (first
    |(go_at_call 109;exact qaj (qbn _ fs.length vc (some ⟨b0,o,none⟩) _ _ ((hup _ _ _ lp).trans p2) HMM.out))
    |(go_at_call 113;exact qaj (qaO _ _ _ _))))
   refine wq_ fun w1 hb1=>?_;clear hup;go_wp2
   go_ret;exact⟨qaM (by unfold qaX;simp only[h1,h2,h3];simp),HB0.out.trans (hb1.mono HB0.out.size)⟩
 obtain⟨hl1,hl2⟩:=qak.1 h3;have hl16:len≤16:=by have:=G1.out;omega
 cases h4:inB idx 0 (len-1)
 · go_enter Tryz.func74,Tryz.ntmps74
   go_wp2_with fail
   rw[HW0.out];refine qoH ?_;repeat(go_big_quiet_step (first
    |(go_at_call 109;exact qaj (qbn _ fs.length vc (some ⟨b0,o,none⟩) _ _ ((hup _ _ _ lp).trans p2) HMM.out))
    |(go_at_call 113;exact qaj (qaO _ _ _ _))))
   refine wq_ fun w1 hb1=>?_;clear hup;go_wp2
   go_ret;exact⟨qaM (by unfold qaX;simp only[h1,h2,h3,h4];simp),HB0.out.trans (hb1.mono HB0.out.size)⟩
 by_cases h5:txt.size≤8
 case neg=>
  have h5':(8:Int)<(txt.size:Int):=a_;have d5:decide (txt.size≤8)=false:=by simp;omega
  go_enter Tryz.func74,Tryz.ntmps74
  go_wp2_with fail
  rw[HW0.out];refine qoH ?_;repeat(go_big_quiet_step (first
   |(go_at_call 109;exact qaj (qbn _ fs.length vc (some ⟨b0,o,none⟩) _ _ ((hup _ _ _ lp).trans p2) HMM.out))
   |(go_at_call 113;exact qaj (qaO _ _ _ _))))
  refine wq_ fun w1 hb1=>?_;clear hup;go_wp2
  go_ret;exact⟨qaM (by unfold qaX;simp only[h1,h2,h3,h4,d5];simp),HB0.out.trans (hb1.mono HB0.out.size)⟩
 have h5':decide ((8:Int)<(txt.size:Int))=false:=by rw[decide_eq_false_iff_not];omega
 have d5:decide (txt.size≤8)=true:=by simp;omega
 obtain⟨m,HM⟩:∃ m:Nat,len=(m:Int):=⟨len.toNat,a_⟩
 subst HM;have hmb:m≤f0.bl.length:=by have:=G1.out;omega
 have HFIN:Hid (qaX fs.length f0 ⟨fr,to_,m,idx,txt,prf⟩=(prf==qaQ ((lvs f0.bl).take m) idx)):=hI_ (by unfold qaX;simp only[h1,h2,h3,h4,d5,Int.toNat_natCast,Bool.true_and]);go_enter Tryz.func74,Tryz.ntmps74
 go_wp2_with fail
 rw[HW0.out];refine qoH ?_;repeat(go_big_quiet_step (first
  |(go_at_call 109;exact qaj (qbn _ fs.length vc (some ⟨b0,o,none⟩) _ _ ((hup _ _ _ lp).trans p2) HMM.out))
  |(go_at_call 113;exact qaj (qaO _ _ _ _))))
 refine wq_ fun w1 hb1=>?_;clear hup;have hsz0:W0.heap.size≤w1.heap.size:=hb1.size;clear h1 h2 h3 h4 h5' d5 c1;go_wp2
 go_region_held3 (fun w'=>w'.cell? ⟨q,0,none⟩=some (.int .i64 s)∧w'.cell? ⟨q,1,none⟩=some (.int .i64 b)∧w'.cell? ⟨q,2,none⟩=some (.slice (some ⟨b0,o,none⟩) fs.length vc)∧w'.cell? ⟨q,3,none⟩=some (vL)∧w'.cell? ⟨q,4,none⟩=some (vK)∧w'.cell? ⟨q,5,none⟩=some (vN)∧w'.cell? ⟨w.heap.size,2,none⟩=some (.int .i64 (m:Int))∧w'.cell? ⟨w.heap.size,3,none⟩=some (.int .i64 idx)∧w'.cell? ⟨w.heap.size,5,none⟩=some (.slice xA prf.length xc))
  (exact⟨(Below.cell c_ lp).trans p0,(Below.cell c_ lp).trans p1,(Below.cell c_ lp).trans p2,(Below.cell c_ lp).trans p3,(Below.cell c_ lp).trans p4,(Below.cell c_ lp).trans p5,(Below.cell c_ lq).trans q2,(Below.cell c_ lq).trans q3,(Below.cell c_ lq).trans q5⟩)
  (first
    |(go_at_call 145;refine(qj2 fs m q _ _ ((Below.cell c_ lp).trans p2) (HF.out.below c_) h0 (by rw[HF00.out];exact hmb) a8_ aU_).mono ?_;rintro e w2 ⟨v2,rfl,ho2,hb2⟩;rw[HF00.out] at ho2
      have hbm:bB W0 w2:=qcI c_ b_ hb2;have hsz2:=hbm.size)
    |(go_at_call 144;refine(qfE _ idx _ _ ho2.r1).mono ?_;rintro e w3 ⟨v3,rfl,ho3,hb3⟩
      have hbn:bB W0 w3:=qcI c_ b_ hb3;have hsz3:=hbn.size)
    |(go_at_call 156;refine(qkw prf _ _ _ _ (HX.out.below c_) ho3.r1).mono ?_;rintro e w4 ⟨rfl,hb4⟩
      have hbo:bB W0 w4:=qcI c_ b_ hb4))
 all_goals(
  go_wp2
  go_ret;exact⟨qaM HFIN.out.symm,HB0.out.trans (Below.mono c_ HB0.out.size)⟩)
theorem qix{n:Nat}{l:List (Int×Int)}{r:Bool}(h:Hid (qcE n l=r))(q cF:Nat)(AF:Option Addr)(vL:Value)(w:World)(h2:w.cell? ⟨q,2,none⟩=some (.slice AF n cF))(h3:w.cell? ⟨q,3,none⟩=some vL)(hL:RP w vL l)(hn:n≤maxLen)(hq:q<w.heap.size):
 gV 72 #[.pointer (some ⟨q,0,none⟩)] w (.bool r):=by
 rw[←h.out];exact qiy q n cF AF l vL w h2 h3 hL hn hq
theorem qji{fs:List Fd}{f f0:Fd}{s:Int}{r:Bool}(hf0:Hid (fs.getD 0 Fd.none=f0))(h:Hid (qcy s f0 f=r))(q:Nat)(b:Int)(vF vL vK vN va vh:Value)(w:World)(hbox:w.heap[q]? =some (.cells #[.int .i64 s,.int .i64 b,vF,vL,vK,vN] 28 (0,0)))(hF:qa6 w vF fs)(hf:qaU w f va vh)(h0:0<fs.length)(hv0:Hid (qaq f0=true)):
 gV 73 #[.pointer (some ⟨q,0,none⟩),.agg #[.int .i64 f.pub,.int .i64 f.hd.len,.int .i64 f.hd.dg,.int .i64 f.hd.sg,va,vh]] w (.bool r):=by
 have:=qjj fs f q s b vF vL vK vN va vh w hbox hF hf h0 aT_;rwa[hf0.out,h.out] at this
theorem qiJ{fs:List Fd}{f0:Fd}{p:Pc}{n:Nat}{r:Bool}(hf0:Hid (fs.getD 0 Fd.none=f0))(hn:Hid (fs.length=n))(h:Hid (qaX n f0 p=r))(q:Nat)(s b:Int)(vF vL vK vN vp:Value)(w:World)(hbox:w.heap[q]? =some (.cells #[.int .i64 s,.int .i64 b,vF,vL,vK,vN] 28 (0,0)))(hF:qa6 w vF fs)(hp:RI w vp p.prf)(h0:0<fs.length)(hv0:Hid (qaq f0=true))(ht:p.txt.size≤maxLen):
 gV 74 #[.pointer (some ⟨q,0,none⟩),.agg #[.int .i64 p.fr,.int .i64 p.to_,.int .i64 p.len,.int .i64 p.idx,.string p.txt,vp]] w (.bool r):=by
 have:=qiK fs p s b q vF vL vK vN vp w hbox hF hp h0 aT_ ht;rwa[hf0.out,hn.out,h.out] at this

theorem qfi(x:Wd)(vF vL vK vN:Value)(w:World)(hx:WdR w x vF vL vK vN)(ht:∀ j (hj:j<x.net.length),x.net[j].txt.size≤maxLen):
 gV 34 #[.agg #[.int .i64 x.sec,.int .i64 x.bad,vF,vL,vK,vN]] w (.bool (qcc x)):=by
 obtain⟨s,b,fs,ls,ks,ps⟩:=x;obtain⟨hF,hL,hK,hN⟩:=hx;simp only at hF hL hK hN ht ⊢;obtain⟨vA,vc,rfl⟩:=hF.sl;obtain⟨lA,lc,rfl⟩:=hL.sl;obtain⟨kA,kc,rfl⟩:=hK.sl;obtain⟨nA,nc,rfl⟩:=hN.sl;obtain⟨W0,HW0⟩:=nm_ (w.alloc (.cells #[.int .i64 s,.int .i64 b,.slice vA fs.length vc,.slice lA ls.length lc,.slice kA ks.length kc,.slice nA ps.length nc] 28));have HB0:Hid (bB w W0):=hI_ q_;have hp:W0.heap[w.heap.size]? =some (.cells #[.int .i64 s,.int .i64 b,.slice vA fs.length vc,.slice lA ls.length lc,.slice kA ks.length kc,.slice nA ps.length nc] 28 (0,0)):=by rw[←HW0.out];exact heap_alloc_new w _
 have lp:=(Array.getElem?_eq_some_iff.1 hp).1;have HF:=hI_ (hF.below HB0.out);have HL:=hI_ (hL.below HB0.out);have HK:=hI_ (hK.below HB0.out);have HN:=hI_ (hN.below HB0.out);have HT:=hI_ ht;have hm:=hF.len;have HM:=hI_ hm;have hm2:=hL.len;have hm3:=hK.len;have hm4:=hN.len;unfold maxLen at hm hm2 hm3 hm4;have HP:=hI_ hp;obtain⟨p0,p1,p2,p3,p4,p5,pf⟩:=qaa hp;obtain⟨f0,HF00⟩:=nm_ (fs.getD 0 Fd.none);obtain⟨n,HNN⟩:=nm_ fs.length;obtain⟨b1,H1⟩:=nm_ (qfb s fs.length b);obtain⟨b2,H2⟩:=nm_ (qaq f0);obtain⟨b3,H3⟩:=nm_ (qbA f0.hv);obtain⟨b4,H4⟩:=nm_ (qcE fs.length ls);have HV:Hid (qcc ⟨s,b,fs,ls,ks,ps⟩=(b1&&b2&&b3&&b4&&ks.length==fs.length&&decide (ps.length≤12)&&qdv fs.length (qdf ⟨s,b,fs,ls,ks,ps⟩)&&qdv ps.length (qew ⟨s,b,fs,ls,ks,ps⟩))):=hI_ (by
  unfold qcc Wd.f0;simp only[HF00.out];rw[H1.out,H2.out,H3.out,H4.out])
 clear hF hL hK hN ht hp;cases b1
 · go_enter Tryz.func34,Tryz.ntmps34
   go_wp2_with fail
   rw[HW0.out];refine(qej H1 W0).mono ?_;rintro e w1 ⟨rfl,rfl⟩;go_wp2_with fail
   go_ret;exact⟨qaM aw_,HB0.out⟩
 obtain⟨-,hn1,hn6,-,-⟩:=qb5 H1.out;have h0:0<fs.length:=hn1;have h0i:(0:Int)<(fs.length:Int):=a_;obtain⟨b0,o,z0x,z1x,rfl,hbs,c0,c1,c2,c3,c4,c5,c6⟩:=HF.out.at0 h0;rw[HF00.out] at c0 c1 c2 c3 c6;have C6:=hI_ (show _∧_∧_∧_∧_∧_ from⟨c0,c1,c2,c3,c4,c5⟩);have HR0:=hI_ c6;clear c6;go_enter Tryz.func34,Tryz.ntmps34
 go_wp2_with fail
 rw[HW0.out];refine(qej H1 W0).mono ?_;rintro e w1 ⟨rfl,rfl⟩;go_wp2_with fail
 refine(qbp H2 _ _ W0 HR0.out).mono ?_;rintro e w2 ⟨rfl,hb4⟩;clear p0 p1 p2 p3 p4 p5 pf c0 c1 c2 c3 c4 c5;obtain⟨p0,p1,p2,p3,p4,p5,pf⟩:=qaa ((hb4.block _ lp).trans HP.out);cases b2
 · go_wp2_with fail
   go_ret;exact⟨qaM aw_,HB0.out.trans (hb4.mono HB0.out.size)⟩
 obtain⟨c0,c1,c2,c3,c4,c5⟩:=qnL hb4 hbs C6.out;obtain⟨g1,g2,g3,g4⟩:=qdU H2.out;have G1:=hI_ g1;clear g1 g2 g3 g4;go_wp2_with fail
 refine(qgm H3 _ f0.hd _ _ w2 (HR0.out.below hb4).hv).mono ?_;rintro e w3 ⟨rfl,hb5⟩;have hb6:=hb4.trans (hb5.mono hb4.size);clear p0 p1 p2 p3 p4 p5 pf c0 c1 c2 c3 c4 c5 hb5 hb4;obtain⟨p0,p1,p2,p3,p4,p5,pf⟩:=qaa ((hb6.block _ lp).trans HP.out);cases b3
 · go_wp2_with fail
   go_ret;exact⟨qaM aw_,HB0.out.trans (hb6.mono HB0.out.size)⟩
 have lp6:=nL_ lp hb6.size;go_wp2_with fail
 refine(qix H4 _ vc _ _ w3 p2 p3 (HL.out.below hb6) HM.out lp6).mono ?_;rintro e w4 ⟨rfl,hb7⟩;have hb8:=hb6.trans (hb7.mono hb6.size);clear p0 p1 p2 p3 p4 p5 pf hb6 hb7;obtain⟨p0,p1,p2,p3,p4,p5,pf⟩:=qaa ((hb8.block _ lp).trans HP.out);cases b4
 · go_wp2_with fail
   go_ret;exact⟨qaM aw_,HB0.out.trans (hb8.mono HB0.out.size)⟩
 by_cases hkf:ks.length=fs.length
 case neg=>
  have hkf':((ks.length:Int)!=(fs.length:Int))=true:=by simp;omega
  have HX:Hid ((ks.length==fs.length)=false):=hI_ (by simp[hkf]);clear hkf;go_wp2_with fail
  go_ret;exact⟨qaM (by rw[HV.out,HX.out];rfl),HB0.out.trans (hb8.mono HB0.out.size)⟩
 have hkf':((ks.length:Int)!=(fs.length:Int))=false:=by simp;omega
 have HX:Hid ((ks.length==fs.length)=true):=hI_ (by simp[hkf]);have HKF:=hI_ hkf;clear hkf;by_cases h12:ps.length≤12
 case neg=>
  have h12':(12:Int)<(ps.length:Int):=a_;have HY:Hid (decide (ps.length≤12)=false):=hI_ n_;go_wp2_with fail
  go_ret;exact⟨qaM aK_,HB0.out.trans (hb8.mono HB0.out.size)⟩
 have h12':¬ (12:Int)<(ps.length:Int):=a_;have HY:Hid (decide (ps.length≤12)=true):=hI_ n_;have HB8:=hI_ hb8;clear hb8;have HVF:Hid (qcc ⟨s,b,fs,ls,ks,ps⟩=(qdv fs.length (qdf ⟨s,b,fs,ls,ks,ps⟩)&&qdv ps.length (qew ⟨s,b,fs,ls,ks,ps⟩))):=hI_ aK_;go_wp2_with fail
 go_loopw [52] (fun i wr=>∃ k:Nat,k≤fs.length∧i=.int .i64 k∧qdv k (qdf ⟨s,b,fs,ls,ks,ps⟩)=true∧bB W0 wr) (fun i _=>fs.length-(intOf i).toNat)
 case atStart=>exact⟨0,Nat.zero_le _,rfl,qb9,HB8.out⟩
 case round=>
  obtain⟨k,hk,rfl,hno,hbw⟩:=hrel;have HNO:=hI_ hno;have HBW:=hI_ hbw;clear p0 p1 p2 p3 p4 p5 pf hno;obtain⟨p0,p1,p2,p3,p4,p5,pf⟩:=qaa ((HBW.out.block _ lp).trans HP.out);have lpr:=nL_ lp hbw.size;clear hbw;by_cases hlt:k<fs.length
  case neg=>
   obtain rfl:k=fs.length:=a_;have HA1:Hid (qcc ⟨s,b,fs,ls,ks,ps⟩=qdv ps.length (qew ⟨s,b,fs,ls,ks,ps⟩)):=hI_ (by rw[HVF.out,HNO.out,Bool.true_and]);clear HNO;go_wp2_with fail
   go_loopw [73] (fun i wq=>∃ k:Nat,k≤ps.length∧i=.int .i64 k∧qdv k (qew ⟨s,b,fs,ls,ks,ps⟩)=true∧bB W0 wq) (fun i _=>ps.length-(intOf i).toNat)
   case atStart=>exact⟨0,Nat.zero_le _,rfl,qb9,HBW.out⟩
   case round=>
    obtain⟨k,hk,rfl,hno,hbw⟩:=hrel;have HNO:=hI_ hno;have HBQ:=hI_ hbw;clear p0 p1 p2 p3 p4 p5 pf hno;obtain⟨p0,p1,p2,p3,p4,p5,pf⟩:=qaa ((HBQ.out.block _ lp).trans HP.out);have lpr:=nL_ lp hbw.size;clear hbw;by_cases hlt:k<ps.length
    case neg=>
     obtain rfl:k=ps.length:=a_;go_wp2_with fail
     go_ret;exact⟨qaM (by rw[HA1.out,HNO.out]),HB0.out.trans (HBQ.out.mono HB0.out.size)⟩
    obtain⟨t1,i1,xk,rfl,s1,e0,e1,e2,e3,e4,e5,e6⟩:=(HN.out.below HBQ.out).at_ hlt;have hki:(k:Int)<(ps.length:Int):=a_;have hk0:(0:Int)≤(k:Int):=a_;have HTK:=hI_ (HT.out k hlt);obtain⟨r1,R1⟩:=nm_ (qaX n f0 ps[k]);have HBA:Hid (qew ⟨s,b,fs,ls,ks,ps⟩ k=r1):=hI_ (by unfold qew Wd.f0;simp only;rw[qam hlt,HF00.out,HNN.out,R1.out]);have HE:=hI_ e6;obtain⟨eA,ec,rfl⟩:=e6.sl';clear e6;generalize ps[k]=f at*
    obtain⟨W1,HW1⟩:=nm_ (wr.alloc (.cells #[.int .i64 f.fr,.int .i64 f.to_,.int .i64 f.len,.int .i64 f.idx,.string f.txt,.slice eA f.prf.length ec] 57));have HBR:Hid (bB wr W1):=hI_ (by rw[←HW1.out];exact(bR_ _ _).alloc (nr_ _) _);have HBU:Hid (bB W0 W1):=hI_ (HBQ.out.trans (HBR.out.mono HBQ.out.size));go_wp2_with fail
    rw[HW1.out];refine(qiJ HF00 HNN R1 _ s b _ _ _ _ _ W1 ((HBU.out.block _ lp).trans HP.out) (HF.out.below HBU.out) (HE.out.below HBR.out) h0 H2 HTK.out).mono ?_;rintro e w1 ⟨rfl,hb1⟩;have HB1:Hid (bB W0 w1):=hI_ (HBU.out.trans (hb1.mono HBU.out.size));clear hb1 p0 p1 p2 p3 p4 p5 pf e0 e1 e2 e3 e4 e5;cases r1
    · go_wp2_with fail
      go_ret;exact⟨qaM (by rw[HA1.out,qdi hlt HBA.out]),HB0.out.trans (HB1.out.mono HB0.out.size)⟩
    go_wp2_with fail
    go_roundw
    case rel=>exact⟨k+1,a_,t_,qbh HNO.out HBA.out,HB1.out⟩
    case measure=>simp[intOf];omega
  have hlt2:k<ks.length:=by have:=HKF.out;omega
  obtain⟨_,_,xa,xb,hAe,s1,e0,e1,e2,e3,e4,e5,e6⟩:=(HF.out.below HBW.out).at_ hlt;cases hAe
  obtain⟨t2,i2,xk,rfl,s2,d2,d3⟩:=(HK.out.below HBW.out).at_ hlt2;have hki:(k:Int)<(fs.length:Int):=a_;have hki2:(k:Int)<(ks.length:Int):=a_;have hk0:(0:Int)≤(k:Int):=a_;obtain⟨r1,R1⟩:=nm_ (qcy s f0 fs[k]);obtain⟨r2,R2⟩:=nm_ (qaG ks[k]);have HBA:Hid (qdf ⟨s,b,fs,ls,ks,ps⟩ k=(r1&&r2)):=hI_ (by unfold qdf Wd.f0;simp only;rw[qam hlt,qam hlt2,HF00.out,R1.out,R2.out]);have HE:=hI_ e6;have HD:=hI_ d3;obtain⟨eA,ec,rfl⟩:=e6.bl.sl';obtain⟨fA,fc,rfl⟩:=e6.hv.sl';clear e6 d3;generalize fs[k]=f at*
  generalize ks[k]=q at*
  obtain⟨W1,HW1⟩:=nm_ (wr.alloc (.cells #[.int .i64 f.pub,.int .i64 f.hd.len,.int .i64 f.hd.dg,.int .i64 f.hd.sg,.slice eA f.bl.length ec,.slice fA f.hv.length fc] 50));have HBR:Hid (bB wr W1):=hI_ (by rw[←HW1.out];exact(bR_ _ _).alloc (nr_ _) _);have HBU:Hid (bB W0 W1):=hI_ (HBW.out.trans (HBR.out.mono HBW.out.size));go_wp2_with fail
  rw[HW1.out];refine(qji HF00 R1 _ b _ _ _ _ _ _ W1 ((HBU.out.block _ lp).trans HP.out) (HF.out.below HBU.out) (HE.out.below HBR.out) h0 H2).mono ?_;rintro e w1 ⟨rfl,hb1⟩;have HB1:Hid (bB W0 w1):=hI_ (HBU.out.trans (hb1.mono HBU.out.size));have HR1:Hid (bB wr w1):=hI_ (HBR.out.trans (hb1.mono HBR.out.size));clear p0 p1 p2 p3 p4 p5 pf e0 e1 e2 e3 e4 e5 hb1;have d2':=(HR1.out.cell (p:=⟨t2,i2+k,none⟩) s2).trans d2;clear d2;have lp1:=nL_ lp HB1.out.size;obtain⟨p0,p1,p2,p3,p4,p5,pf⟩:=qaa ((HB1.out.block _ lp).trans HP.out);cases r1
  · go_wp2_with fail
    go_ret;exact⟨qaM aH_,HB0.out.trans (HB1.out.mono HB0.out.size)⟩
  go_wp2_with fail
  refine(qgu R2 _ w1 (HD.out.below HR1.out)).mono ?_;rintro e w2 ⟨rfl,hb2⟩;have HB2:Hid (bB W0 w2):=hI_ (HB1.out.trans (hb2.mono HB1.out.size));clear hb2;cases r2
  · go_wp2_with fail
    go_ret;exact⟨qaM aH_,HB0.out.trans (HB2.out.mono HB0.out.size)⟩
  go_wp2_with fail
  go_roundw
  case rel=>exact⟨k+1,a_,t_,qbh HNO.out HBA.out,HB2.out⟩
  case measure=>simp[intOf];omega
end Go.Proofs.YtekaaekpdebloaaGreatDoor

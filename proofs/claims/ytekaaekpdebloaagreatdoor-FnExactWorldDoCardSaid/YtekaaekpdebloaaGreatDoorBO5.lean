/- Words and walks of the law. -/
import Derived.Test.YtekaaekpdebloaaGreatDoorBN5
set_option linter.unusedVariables false
set_option linter.unusedSimpArgs false
set_option maxHeartbeats 12800000
set_option maxRecDepth 100000
namespace Go.Proofs.YtekaaekpdebloaaGreatDoor
open Go.RowKit

theorem qnL{B:Nat}{a b:World}{k o:Nat}{x0 x1 x2 x3 x4 x5:Value}(hb:Below B a b)(hk:k<B)
 (h:a.cell? ⟨k,o,none⟩=some x0∧a.cell? ⟨k,o+1,none⟩=some x1∧a.cell? ⟨k,o+2,none⟩=some x2∧a.cell? ⟨k,o+3,none⟩=some x3∧a.cell? ⟨k,o+4,none⟩=some x4∧a.cell? ⟨k,o+5,none⟩=some x5):
 b.cell? ⟨k,o,none⟩=some x0∧b.cell? ⟨k,o+1,none⟩=some x1∧b.cell? ⟨k,o+2,none⟩=some x2∧b.cell? ⟨k,o+3,none⟩=some x3∧b.cell? ⟨k,o+4,none⟩=some x4∧b.cell? ⟨k,o+5,none⟩=some x5:=
 ⟨(hb.cell (p:=⟨k,o,none⟩) hk).trans h.1,(hb.cell (p:=⟨k,o+1,none⟩) hk).trans h.2.1,(hb.cell (p:=⟨k,o+2,none⟩) hk).trans h.2.2.1,(hb.cell (p:=⟨k,o+3,none⟩) hk).trans h.2.2.2.1,(hb.cell (p:=⟨k,o+4,none⟩) hk).trans h.2.2.2.2.1,(hb.cell (p:=⟨k,o+5,none⟩) hk).trans h.2.2.2.2.2⟩
theorem qjx{n:Nat}{l:List (Int×Int)}{r:Bool}(h:Hid (qcE n l=r))(s b:Int)(cF:Nat)(AF:Option Addr)(vL vA vN:Value)(w:World)(hL:RP w vL l)(hn:n≤maxLen):
 gV 58 #[.agg #[.int .i64 s,.int .i64 b,.slice AF n cF,vL,vA,vN]] w (.bool r):=by
 rw[←h.out];exact qkK s b n cF AF l vL vA vN w hL hn
theorem qe8{fs:List Fd}{f f0:Fd}{s:Int}{r:Bool}(hf0:Hid (fs.getD 0 Fd.none=f0))(h:Hid (qcy s f0 f=r))(b:Int)(vF vL vK vN va vh:Value)(w:World)(hF:qa6 w vF fs)(hf:qaU w f va vh)(h0:0<fs.length)(hv0:Hid (qaq f0=true)):
 gV 59 #[.agg #[.int .i64 s,.int .i64 b,vF,vL,vK,vN],.agg #[.int .i64 f.pub,.int .i64 f.hd.len,.int .i64 f.hd.dg,.int .i64 f.hd.sg,va,vh]] w (.bool r):=by
 have:=qlS fs f s b vF vL vK vN va vh w hF hf h0 aT_;rwa[hf0.out,h.out] at this
theorem qf1{fs:List Fd}{f0:Fd}{p:Pc}{n:Nat}{r:Bool}(hf0:Hid (fs.getD 0 Fd.none=f0))(hn:Hid (fs.length=n))(h:Hid (qaX n f0 p=r))(s b:Int)(vF vL vK vN vp:Value)(w:World)(hF:qa6 w vF fs)(hp:RI w vp p.prf)(h0:0<fs.length)(hv0:Hid (qaq f0=true))(ht:p.txt.size≤maxLen):
 gV 61 #[.agg #[.int .i64 s,.int .i64 b,vF,vL,vK,vN],.agg #[.int .i64 p.fr,.int .i64 p.to_,.int .i64 p.len,.int .i64 p.idx,.string p.txt,vp]] w (.bool r):=by
 have:=qkL fs p s b vF vL vK vN vp w hF hp h0 aT_ ht;rwa[hf0.out,hn.out,h.out] at this

theorem qdO(x:Wd)(vF vL vK vN:Value)(w:World)(hx:WdR w x vF vL vK vN)(ht:∀ j (hj:j<x.net.length),x.net[j].txt.size≤maxLen):
 gV 18 #[.agg #[.int .i64 x.sec,.int .i64 x.bad,vF,vL,vK,vN]] w (.bool (qcc x)):=by
 obtain⟨s,b,fs,ls,ks,ps⟩:=x;obtain⟨hF,hL,hK,hN⟩:=hx;simp only at hF hL hK hN ht ⊢;obtain⟨vA,vc,rfl⟩:=hF.sl;obtain⟨lA,lc,rfl⟩:=hL.sl;obtain⟨kA,kc,rfl⟩:=hK.sl;obtain⟨nA,nc,rfl⟩:=hN.sl;obtain⟨W0,HW0⟩:=nm_ (w.alloc (.cells #[.int .i64 s,.int .i64 b,.slice vA fs.length vc,.slice lA ls.length lc,.slice kA ks.length kc,.slice nA ps.length nc] 28));have HB0:Hid (bB w W0):=hI_ q_;have hp:W0.heap[w.heap.size]? =some (.cells #[.int .i64 s,.int .i64 b,.slice vA fs.length vc,.slice lA ls.length lc,.slice kA ks.length kc,.slice nA ps.length nc] 28 (0,0)):=by rw[←HW0.out];exact heap_alloc_new w _
 have lp:=(Array.getElem?_eq_some_iff.1 hp).1;have HF:=hI_ (hF.below HB0.out);have HL:=hI_ (hL.below HB0.out);have HK:=hI_ (hK.below HB0.out);have HN:=hI_ (hN.below HB0.out);have HT:=hI_ ht;have hm:=hF.len;have HM:=hI_ hm;have hm2:=hL.len;have hm3:=hK.len;have hm4:=hN.len;unfold maxLen at hm hm2 hm3 hm4;have HP:=hI_ hp;obtain⟨p0,p1,p2,p3,p4,p5,pf⟩:=qaa hp;obtain⟨f0,HF00⟩:=nm_ (fs.getD 0 Fd.none);obtain⟨n,HNN⟩:=nm_ fs.length;obtain⟨b1,H1⟩:=nm_ (qfb s fs.length b);obtain⟨b2,H2⟩:=nm_ (qaq f0);obtain⟨b3,H3⟩:=nm_ (qbA f0.hv);obtain⟨b4,H4⟩:=nm_ (qcE fs.length ls);have HV:Hid (qcc ⟨s,b,fs,ls,ks,ps⟩=(b1&&b2&&b3&&b4&&ks.length==fs.length&&decide (ps.length≤12)&&qdv fs.length (qdf ⟨s,b,fs,ls,ks,ps⟩)&&qdv ps.length (qew ⟨s,b,fs,ls,ks,ps⟩))):=hI_ (by
  unfold qcc Wd.f0;simp only[HF00.out];rw[H1.out,H2.out,H3.out,H4.out])
 clear hF hL hK hN ht hp;cases b1
 · go_enter Tryz.func18,Tryz.ntmps18
   go_wp2_with fail
   rw[HW0.out];refine(qeE H1 W0).mono ?_;rintro e w1 ⟨oF,oL,oA,oN,_,_,rfl,qF,-,qA,-,qL,qN,hb1⟩;obtain⟨aF,dF,rfl⟩:=qF.rn.sl;obtain⟨aK,dK,rfl⟩:=qA.rn.sl;obtain⟨aL,dL,rfl,-,-⟩:=qL;obtain⟨aN,dN,rfl,-,-⟩:=qN;clear qF qA;clear p0 p1 p2 p3 p4 p5 pf;obtain⟨p0,p1,p2,p3,p4,p5,pf⟩:=qaa ((hb1.block _ lp).trans HP.out);go_wp2_with fail
   go_ret;exact⟨qaM aw_,HB0.out.trans ((hb1.alloc hb1.size _).mono HB0.out.size)⟩
 obtain⟨-,hn1,hn6,-,-⟩:=qb5 H1.out;have h0:0<fs.length:=hn1;have h0i:(0:Int)<(fs.length:Int):=a_;obtain⟨b0,o,z0x,z1x,rfl,hbs,c0,c1,c2,c3,c4,c5,c6⟩:=HF.out.at0 h0;rw[HF00.out] at c0 c1 c2 c3 c6;have C6:=hI_ (show _∧_∧_∧_∧_∧_ from⟨c0,c1,c2,c3,c4,c5⟩);have HR0:=hI_ c6;clear c0 c1 c2 c3 c4 c5 c6;go_enter Tryz.func18,Tryz.ntmps18
 go_wp2_with fail
 rw[HW0.out];refine(qdu H1 W0).mono ?_;rintro e w1 ⟨oF,oL,oA,oN,_,_,rfl,qF,-,qA,-,qL,qN,hb1⟩;obtain⟨aF,dF,rfl⟩:=qF.rn.sl;obtain⟨aK,dK,rfl⟩:=qA.rn.sl;obtain⟨aL,dL,rfl,-,-⟩:=qL;obtain⟨aN,dN,rfl,-,-⟩:=qN;clear p0 p1 p2 p3 p4 p5 pf qF qA;obtain⟨W1,HW1⟩:=nm_ (w1.alloc (.cells #[.int .i64 s,.int .i64 b,.slice aF fs.length dF,.slice aL 0 dL,.slice aK fs.length dK,.slice aN 0 dN] 28));have hb2:bB W0 W1:=by rw[←HW1.out];exact hb1.alloc hb1.size _
 obtain⟨p0,p1,p2,p3,p4,p5,pf⟩:=qaa ((hb2.block _ lp).trans HP.out);obtain⟨c0,c1,c2,c3,c4,c5⟩:=qnL hb2 hbs C6.out;rw[←HW1.out] at p0 p1 p2 p3 p4 p5 c0 c1 c2 c3 c4 c5;go_wp2_with fail
 rw[HW1.out];refine(qbD H2 _ _ W1 (HR0.out.below hb2)).mono ?_;rintro e w2 ⟨rfl,hb3⟩;have hb4:=hb2.trans (hb3.mono hb2.size);clear p0 p1 p2 p3 p4 p5 pf c0 c1 c2 c3 c4 c5 hb1 hb2 hb3;obtain⟨p0,p1,p2,p3,p4,p5,pf⟩:=qaa ((hb4.block _ lp).trans HP.out);cases b2
 · go_wp2_with fail
   go_ret;exact⟨qaM aw_,HB0.out.trans (hb4.mono HB0.out.size)⟩
 obtain⟨c0,c1,c2,c3,c4,c5⟩:=qnL hb4 hbs C6.out;obtain⟨g1,g2,g3,g4⟩:=qdU H2.out;have HG:Hid (f0.hv.length≤16):=hI_ a_;have G1:=hI_ g1;clear g1 g2 g3 g4;go_wp2_with fail
 refine(qe6 H3 HG.out _ f0.hd _ _ w2 (HR0.out.below hb4).hv).mono ?_;rintro e w3 ⟨rfl,hb5⟩;have hb6:=hb4.trans (hb5.mono hb4.size);clear p0 p1 p2 p3 p4 p5 pf c0 c1 c2 c3 c4 c5 hb5 hb4;obtain⟨p0,p1,p2,p3,p4,p5,pf⟩:=qaa ((hb6.block _ lp).trans HP.out);cases b3
 · go_wp2_with fail
   go_ret;exact⟨qaM aw_,HB0.out.trans (hb6.mono HB0.out.size)⟩
 go_wp2_with fail
 refine(qjx H4 s b vc _ _ _ _ w3 (HL.out.below hb6) HM.out).mono ?_;rintro e w4 ⟨rfl,hb7⟩;have hb8:=hb6.trans (hb7.mono hb6.size);clear p0 p1 p2 p3 p4 p5 pf hb6 hb7;obtain⟨p0,p1,p2,p3,p4,p5,pf⟩:=qaa ((hb8.block _ lp).trans HP.out);cases b4
 · go_wp2_with fail
   go_ret;exact⟨qaM aw_,HB0.out.trans (hb8.mono HB0.out.size)⟩
 by_cases hkf:ks.length=fs.length
 case neg=>
  have hkf':((ks.length:Int)!=(fs.length:Int))=true:=by simp;omega
  have HX:Hid ((ks.length==fs.length)=false):=hI_ (by simp[hkf]);clear hkf;go_wp2_with fail
  go_ret;exact⟨qaM (by rw[HV.out,HX.out];rfl),HB0.out.trans (hb8.mono HB0.out.size)⟩
 have hkf':((ks.length:Int)!=(fs.length:Int))=false:=by simp;omega
 have HX:Hid ((ks.length==fs.length)=true):=hI_ (by simp[hkf]);have HKF:=hI_ hkf;clear hkf;by_cases h12:ps.length≤12
 case neg=>
  have h12':(12:Int)<(ps.length:Int):=a_;have HY:Hid (decide (ps.length≤12)=false):=hI_ n_;go_wp2_with fail
  go_ret;exact⟨qaM aK_,HB0.out.trans (hb8.mono HB0.out.size)⟩
 have h12':¬ (12:Int)<(ps.length:Int):=a_;have HY:Hid (decide (ps.length≤12)=true):=hI_ n_;have HB8:=hI_ hb8;clear hb8;have HVF:Hid (qcc ⟨s,b,fs,ls,ks,ps⟩=(qdv fs.length (qdf ⟨s,b,fs,ls,ks,ps⟩)&&qdv ps.length (qew ⟨s,b,fs,ls,ks,ps⟩))):=hI_ aK_;go_wp2_with fail
 go_loopw [5] (fun i wr=>∃ k:Nat,k≤fs.length∧i=.int .i64 k∧qdv k (qdf ⟨s,b,fs,ls,ks,ps⟩)=true∧bB W0 wr) (fun i _=>fs.length-(intOf i).toNat)
 case atStart=>exact⟨0,Nat.zero_le _,rfl,qb9,HB8.out⟩
 case round=>
  obtain⟨k,hk,rfl,hno,hbw⟩:=hrel;have HNO:=hI_ hno;have HBW:=hI_ hbw;clear p0 p1 p2 p3 p4 p5 pf hno;obtain⟨p0,p1,p2,p3,p4,p5,pf⟩:=qaa ((HBW.out.block _ lp).trans HP.out);have lpr:=nL_ lp hbw.size;clear hbw;by_cases hlt:k<fs.length
  case neg=>
   obtain rfl:k=fs.length:=a_;have HA1:Hid (qcc ⟨s,b,fs,ls,ks,ps⟩=qdv ps.length (qew ⟨s,b,fs,ls,ks,ps⟩)):=hI_ (by rw[HVF.out,HNO.out,Bool.true_and]);clear HNO;go_wp2_with fail
   go_loopw [6] (fun i wq=>∃ k:Nat,k≤ps.length∧i=.int .i64 k∧qdv k (qew ⟨s,b,fs,ls,ks,ps⟩)=true∧bB W0 wq) (fun i _=>ps.length-(intOf i).toNat)
   case atStart=>exact⟨0,Nat.zero_le _,rfl,qb9,HBW.out⟩
   case round=>
    obtain⟨k,hk,rfl,hno,hbw⟩:=hrel;have HNO:=hI_ hno;have HBQ:=hI_ hbw;clear p0 p1 p2 p3 p4 p5 pf hno;obtain⟨p0,p1,p2,p3,p4,p5,pf⟩:=qaa ((HBQ.out.block _ lp).trans HP.out);have lpr:=nL_ lp hbw.size;clear hbw;by_cases hlt:k<ps.length
    case neg=>
     obtain rfl:k=ps.length:=a_;go_wp2_with fail
     go_ret;exact⟨qaM (by rw[HA1.out,HNO.out]),HB0.out.trans (HBQ.out.mono HB0.out.size)⟩
    obtain⟨t1,i1,xk,rfl,s1,e0,e1,e2,e3,e4,e5,e6⟩:=(HN.out.below HBQ.out).at_ hlt;have hki:(k:Int)<(ps.length:Int):=a_;have hk0:(0:Int)≤(k:Int):=a_;have HTK:=hI_ (HT.out k hlt);obtain⟨r1,R1⟩:=nm_ (qaX n f0 ps[k]);have HBA:Hid (qew ⟨s,b,fs,ls,ks,ps⟩ k=r1):=hI_ (by unfold qew Wd.f0;simp only;rw[qam hlt,HF00.out,HNN.out,R1.out]);have HE:=hI_ e6;have HFW:=hI_ (HF.out.below HBQ.out);clear e6;generalize ps[k]=f at*
    have hup:=qap wr;cases r1
    · go_wp2_with fail
      refine qoH ?_;repeat(go_big_quiet_step ((go_at_call 61;exact qal (qf1 HF00 HNN R1 s b _ _ _ _ _ _ (HFW.out.below (qao _ _)) (HE.out.below (qao _ _)) h0 H2 HTK.out))))
      refine wq_ fun w1 hb1=>?_;clear hup;go_wp2_with fail
      go_ret;exact⟨qaM (by rw[HA1.out,qdi hlt HBA.out]),HB0.out.trans ((HBQ.out.trans (hb1.mono HBQ.out.size)).mono HB0.out.size)⟩
    go_wp2_with fail
    refine qoH ?_;repeat(go_big_quiet_step ((go_at_call 61;exact qal (qf1 HF00 HNN R1 s b _ _ _ _ _ _ (HFW.out.below (qao _ _)) (HE.out.below (qao _ _)) h0 H2 HTK.out))))
    refine wq_ fun w1 hb1=>?_;clear hup;go_wp2_with fail
    go_roundw
    case rel=>exact⟨k+1,a_,t_,qbh HNO.out HBA.out,HBQ.out.trans (hb1.mono HBQ.out.size)⟩
    case measure=>simp[intOf];omega
  have hlt2:k<ks.length:=by have:=HKF.out;omega
  obtain⟨_,_,xa,xb,hAe,s1,e0,e1,e2,e3,e4,e5,e6⟩:=(HF.out.below HBW.out).at_ hlt;cases hAe
  obtain⟨t2,i2,xk,rfl,s2,d2,d3⟩:=(HK.out.below HBW.out).at_ hlt2;have hki:(k:Int)<(fs.length:Int):=a_;have hki2:(k:Int)<(ks.length:Int):=a_;have hk0:(0:Int)≤(k:Int):=a_;obtain⟨r1,R1⟩:=nm_ (qcy s f0 fs[k]);obtain⟨r2,R2⟩:=nm_ (qaG ks[k]);have HBA:Hid (qdf ⟨s,b,fs,ls,ks,ps⟩ k=(r1&&r2)):=hI_ (by unfold qdf Wd.f0;simp only;rw[qam hlt,qam hlt2,HF00.out,R1.out,R2.out]);have HE:=hI_ e6;have HD:=hI_ d3;have HFW:=hI_ (HF.out.below HBW.out);clear e6 d3;generalize fs[k]=f at*
  generalize ks[k]=q at*
  have hup:=qap wr;cases r1
  · go_wp2_with fail
    refine qoH ?_;repeat(go_big_quiet_step (first
     |(go_at_call 59;exact qal (qe8 HF00 R1 b _ _ _ _ _ _ _ (HFW.out.below (qao _ _)) (HE.out.below (qao _ _)) h0 H2))
     |(go_at_call 60;exact qal (qaL R2 _ _ (HD.out.below (qao _ _))))))
    refine wq_ fun w1 hb1=>?_;clear hup;go_wp2_with fail
    go_ret;exact⟨qaM aH_,HB0.out.trans ((HBW.out.trans (hb1.mono HBW.out.size)).mono HB0.out.size)⟩
  cases r2
  · go_wp2_with fail
    refine qoH ?_;repeat(go_big_quiet_step (first
     |(go_at_call 59;exact qal (qe8 HF00 R1 b _ _ _ _ _ _ _ (HFW.out.below (qao _ _)) (HE.out.below (qao _ _)) h0 H2))
     |(go_at_call 60;exact qal (qaL R2 _ _ (HD.out.below (qao _ _))))))
    refine wq_ fun w1 hb1=>?_;clear hup;go_wp2_with fail
    go_ret;exact⟨qaM aH_,HB0.out.trans ((HBW.out.trans (hb1.mono HBW.out.size)).mono HB0.out.size)⟩
  go_wp2_with fail
  refine qoH ?_;repeat(go_big_quiet_step (first
   |(go_at_call 59;exact qal (qe8 HF00 R1 b _ _ _ _ _ _ _ (HFW.out.below (qao _ _)) (HE.out.below (qao _ _)) h0 H2))
   |(go_at_call 60;exact qal (qaL R2 _ _ (HD.out.below (qao _ _))))))
  refine wq_ fun w1 hb1=>?_;clear hup;go_wp2_with fail
  go_roundw
  case rel=>exact⟨k+1,a_,t_,qbh HNO.out HBA.out,HBW.out.trans (hb1.mono HBW.out.size)⟩
  case measure=>simp[intOf];omega
theorem qgK(n:Int)(w:World):gS 67 #[.int .i64 n] w (.bool (inB n 0 5)):=by
 go_enter Tryz.func67,Tryz.ntmps67
 go_wp2_with (go_at_call 113;refine(qaO _ _ _ _).mono ?_;rintro e w' ⟨rfl,rfl⟩)
 go_ret;exact⟨rfl,rfl⟩
theorem qh3(x:Int×Int)(w:World):gV 146 #[.agg #[.int .i64 x.1,.int .i64 x.2]] w (.bool (qcB x)):=by
 have hb:=(bR_ w.heap.size w).alloc (nr_ _) (.cells #[.int .i64 x.1,.int .i64 x.2] 109);have HB:=hI_ hb;clear hb;cases h1:inB x.1 0 5
 · go_enter Tryz.func146,Tryz.ntmps146
   go_wp2_with (first|(go_at_call 67;refine(qgK _ _).mono ?_;rintro e w' ⟨rfl,rfl⟩)|(go_at_call 113;refine(qaO _ _ _ _).mono ?_;rintro e w' ⟨rfl,rfl⟩))
   go_ret;exact⟨qaM (by unfold qcB;rw[h1];rfl),HB.out⟩
 · go_enter Tryz.func146,Tryz.ntmps146
   go_wp2_with (first|(go_at_call 67;refine(qgK _ _).mono ?_;rintro e w' ⟨rfl,rfl⟩)|(go_at_call 113;refine(qaO _ _ _ _).mono ?_;rintro e w' ⟨rfl,rfl⟩))
   go_ret;exact⟨qaM (by unfold qcB;rw[h1,Bool.true_and]),HB.out⟩
theorem qdl{x:Int×Int}{b:Bool}(h:Hid (qcB x=b))(w:World):gV 146 #[.agg #[.int .i64 x.1,.int .i64 x.2]] w (.bool b):=by
 rw[←h.out];exact qh3 x w
theorem qkW(l:List (Int×Int))(p:Int)(v:Value)(w:World)(hv:RP w v l):gV 68 #[v,.int .i64 p] w (.int .i64 (qcX l p:Nat)):=by
 have HV:=hI_ hv;have hm:=hv.len;obtain⟨A,c,rfl⟩:=hv.sl;unfold maxLen at hm;clear hv;go_enter Tryz.func68,Tryz.ntmps68
 go_wp2
 go_loopw [5,10] (fun t i wr=>∃ k:Nat,k≤l.length∧i=.int .i64 k∧t=.int .i64 (qcX (l.take k) p:Nat)∧bB w wr) (fun _ i _=>l.length-(intOf i).toNat)
 case atStart=>exact⟨0,Nat.zero_le _,rfl,rfl,bR_ _ _⟩
 case round=>
  obtain⟨k,hk,rfl,rfl,hbw⟩:=hrel;have HBW:=hI_ hbw;clear hbw;by_cases hlt:k<l.length
  · obtain⟨b,o,rfl,hbs,e0,e1⟩:=(HV.out.below HBW.out).at_ hlt;have HS:=hI_ (qh7 hlt p);have hcl:qcX (l.take k) p≤k:=Nat.le_trans (qfL _ _) (List.length_take_le _ _);have hki:(k:Int)<(l.length:Int):=a_;generalize qcX (l.take k) p=t at*
    generalize l[k]=x at*
    by_cases hx:x.1=p
    · have HX:Hid (qcX (l.take (k+1)) p=t+1):=hI_ bf_;clear HS;go_wp2
      go_roundw
      case rel=>exact⟨k+1,a_,t_,by rw[HX.out];go_num,HBW.out.alloc HBW.out.size _⟩
      case measure=>simp[intOf];omega
    · have HX:Hid (qcX (l.take (k+1)) p=t):=hI_ al_;clear HS;go_wp2
      go_roundw
      case rel=>exact⟨k+1,a_,t_,aM_,HBW.out.alloc HBW.out.size _⟩
      case measure=>simp[intOf];omega
  · obtain rfl:k=l.length:=a_;go_wp2
    go_ret;exact⟨qfp (by rw[List.take_length]),HBW.out⟩
theorem qeS{l:List (Int×Int)}{p:Int}{n:Nat}(h:Hid (qcX l p=n))(v:Value)(w:World)(hv:RP w v l):gV 68 #[v,.int .i64 p] w (.int .i64 (n:Nat)):=by
 rw[←h.out];exact qkW l p v w hv
theorem qig(l:List (Int×Int))(p:Int)(v:Value)(w:World)(hv:RP w v l):gV 148 #[v,.int .i64 p] w (.int .i64 (qdL l p:Nat)):=by
 have HV:=hI_ hv;have hm:=hv.len;obtain⟨A,c,rfl⟩:=hv.sl;unfold maxLen at hm;clear hv;go_enter Tryz.func148,Tryz.ntmps148
 go_wp2
 go_loopw [5,10] (fun t i wr=>∃ k:Nat,k≤l.length∧i=.int .i64 k∧t=.int .i64 (qdL (l.take k) p:Nat)∧bB w wr) (fun _ i _=>l.length-(intOf i).toNat)
 case atStart=>exact⟨0,Nat.zero_le _,rfl,rfl,bR_ _ _⟩
 case round=>
  obtain⟨k,hk,rfl,rfl,hbw⟩:=hrel;have HBW:=hI_ hbw;clear hbw;by_cases hlt:k<l.length
  · obtain⟨b,o,rfl,hbs,e0,e1⟩:=(HV.out.below HBW.out).at_ hlt;have HS:=hI_ (qh6 hlt p);have hcl:qdL (l.take k) p≤k:=Nat.le_trans (qfK _ _) (List.length_take_le _ _);have hki:(k:Int)<(l.length:Int):=a_;generalize qdL (l.take k) p=t at*
    generalize l[k]=x at*
    by_cases hx:x.2=p
    · have HX:Hid (qdL (l.take (k+1)) p=t+1):=hI_ bf_;clear HS;go_wp2
      go_roundw
      case rel=>exact⟨k+1,a_,t_,by rw[HX.out];go_num,HBW.out.alloc HBW.out.size _⟩
      case measure=>simp[intOf];omega
    · have HX:Hid (qdL (l.take (k+1)) p=t):=hI_ al_;clear HS;go_wp2
      go_roundw
      case rel=>exact⟨k+1,a_,t_,aM_,HBW.out.alloc HBW.out.size _⟩
      case measure=>simp[intOf];omega
  · obtain rfl:k=l.length:=a_;go_wp2
    go_ret;exact⟨qfp (by rw[List.take_length]),HBW.out⟩
theorem qdo{l:List (Int×Int)}{p:Int}{n:Nat}(h:Hid (qdL l p=n))(v:Value)(w:World)(hv:RP w v l):gV 148 #[v,.int .i64 p] w (.int .i64 (n:Nat)):=by
 rw[←h.out];exact qig l p v w hv
theorem qlM(l:List (Int×Int))(a:Int×Int)(v:Value)(w:World)(hv:RP w v l):Calls Tryz.prog 216 #[v,.agg #[.int .i64 a.1,.int .i64 a.2]] w fun e w'=>(∃ r:Int,e=.returned (.int .i64 r)∧ -1≤r∧(0≤r↔qc8 l a=true))∧bB w w':=by
 obtain⟨W0,HW0⟩:=nm_ (w.alloc (.cells #[.int .i64 a.1,.int .i64 a.2] 109));have HB0:Hid (bB w W0):=hI_ q_;have hp:W0.heap[w.heap.size]? =some (.cells #[.int .i64 a.1,.int .i64 a.2] 109 (0,0)):=by rw[←HW0.out];exact heap_alloc_new w _
 have lp:=(Array.getElem?_eq_some_iff.1 hp).1;have p0:W0.cell? ⟨w.heap.size,0,none⟩=some (.int .i64 a.1):=cell_of_row _ _ 0 _ _ _ hp;have p1:W0.cell? ⟨w.heap.size,1,none⟩=some (.int .i64 a.2):=cell_of_row _ _ 1 _ _ _ hp;have HP0:=hI_ p0;have HP1:=hI_ p1;have HV:=hI_ (hv.below HB0.out);have hm:=hv.len;obtain⟨A,c,rfl⟩:=hv.sl;unfold maxLen at hm;clear hv hp p0 p1;go_enter Tryz.func216,Tryz.ntmps216
 go_wp2
 rw[HW0.out];go_loopw [8] (fun i wr=>∃ k:Nat,k≤l.length∧i=.int .i64 k∧qc8 (l.take k) a=false∧bB W0 wr) (fun i _=>l.length-(intOf i).toNat)
 case atStart=>exact⟨0,Nat.zero_le _,rfl,rfl,bR_ _ _⟩
 case round=>
  obtain⟨k,hk,rfl,hno,hbw⟩:=hrel;have HNO:=hI_ hno;clear hno;by_cases hlt:k<l.length
  · obtain⟨b,o,rfl,hbs,e0,e1⟩:=(HV.out.below hbw).at_ hlt;have p0:=(hbw.cell (p:=⟨w.heap.size,0,none⟩) lp).trans HP0.out;have p1:=(hbw.cell (p:=⟨w.heap.size,1,none⟩) lp).trans HP1.out;have lpr:=nL_ lp hbw.size;have HS:=hI_ (qfQ hlt a);have HAT:Hid ((l[k].1==a.1&&l[k].2==a.2)=true→qc8 l a=true):=hI_ (qjo hlt);have hki:(k:Int)<(l.length:Int):=a_;have hk0:(0:Int)≤(k:Int):=a_;have HBW:=hI_ hbw;clear hbw;generalize l[k]=x at*
    obtain⟨r,HR⟩:=nm_ ((x.1==a.1&&x.2==a.2));have heq:∀ w:World,(binOp .eql 109 (.agg #[.int .i64 a.1,.int .i64 a.2]) (.agg #[.int .i64 x.1,.int .i64 x.2])).run Tryz.prog w=.ok (.bool r) w:=fun w=>by rw[qgc,←HR.out,BEq.comm (a:=a.1),BEq.comm (a:=a.2)]
    have hup:=qap wr;cases r
    · go_wp2
      refine qoH ?_;repeat(go_big_quiet_step (fail))
      refine wq_ fun w1 hb1=>?_;clear hup heq;go_wp2
      go_roundw
      case rel=>exact⟨k+1,a_,t_,by rw[HS.out,HNO.out,HR.out];rfl,HBW.out.trans (hb1.mono HBW.out.size)⟩
      case measure=>simp[intOf];omega
    · go_wp2
      refine qoH ?_;repeat(go_big_quiet_step (fail))
      refine wq_ fun w1 hb1=>?_;clear hup heq;go_wp2
      go_ret;exact⟨⟨k,rfl,a_,fun _=>HAT.out HR.out,fun _=>hk0⟩,HB0.out.trans ((HBW.out.trans (hb1.mono HBW.out.size)).mono HB0.out.size)⟩
  · obtain rfl:k=l.length:=a_;have hno:=HNO.out;rw[List.take_length] at hno;have HNO':=hI_ hno;clear hno;have HBW:=hI_ hbw;clear hbw;go_wp2
    go_ret;exact⟨⟨-1,rfl,a_,fun h=>a_,fun h=>by rw[HNO'.out] at h;cases h⟩,HB0.out.trans (HBW.out.mono HB0.out.size)⟩
theorem qh9(l:List (Int×Int))(a:Int×Int)(v:Value)(w:World)(hv:RP w v l):gV 147 #[v,.agg #[.int .i64 a.1,.int .i64 a.2]] w (.bool (qc8 l a)):=by
 have hb:=(bR_ w.heap.size w).alloc (nr_ _) (.cells #[.int .i64 a.1,.int .i64 a.2] 109);have HB:=hI_ hb;have HV:=hI_ (hv.below hb);clear hb;go_enter Tryz.func147,Tryz.ntmps147
 go_wp2_with fail
 refine(qlM l a _ _ HV.out).mono ?_;rintro e w1 ⟨⟨r,rfl,h1,h2⟩,hb1⟩;have HH:Hid (decide (0≤r)=qc8 l a):=hI_ (by rw[Bool.eq_iff_iff,decide_eq_true_eq];exact h2);have HB1:=hI_ (HB.out.trans (hb1.mono HB.out.size));clear h1 h2 hb1;go_wp2
 go_ret;exact⟨qaM HH.out,HB1.out⟩
theorem qdn{l:List (Int×Int)}{a:Int×Int}{b:Bool}(h:Hid (qc8 l a=b))(v:Value)(w:World)(hv:RP w v l):gV 147 #[v,.agg #[.int .i64 a.1,.int .i64 a.2]] w (.bool b):=by
 rw[←h.out];exact qh9 l a v w hv
theorem qdg{l:List (Int×Int)}{k:Nat}(h:k<l.length)(hp:qgD l k=false):qaG l=false:=by rw[←qg4];exact qdi h hp
theorem qhe(l:List (Int×Int))(v:Value)(w:World)(hv:RP w v l):gV 66 #[v] w (.bool (qaG l)):=by
 have HV:=hI_ hv;have hm:=hv.len;obtain⟨A,c,rfl⟩:=hv.sl;unfold maxLen at hm;have hcap:l.length≤c∧c≤9223372036854775807:=by
  obtain⟨_,_,h0,h1,h2,_⟩:=hv;cases h0
  unfold maxLen at h2;exact⟨h1.1,h2⟩
 obtain⟨hc1,hc2⟩:=hcap;clear hv;go_enter Tryz.func66,Tryz.ntmps66
 go_wp2
 go_loopw [7] (fun i wr=>∃ k:Nat,k≤l.length∧i=.int .i64 k∧qdv k (qgD l)=true∧bB w wr) (fun i _=>l.length-(intOf i).toNat)
 case atStart=>exact⟨0,Nat.zero_le _,rfl,qb9,bR_ _ _⟩
 case round=>
  obtain⟨k,hk,rfl,hno,hbw⟩:=hrel;have HNO:=hI_ hno;clear hno;have HBW:=hI_ hbw;clear hbw;by_cases hlt:k<l.length
  · obtain⟨b,o,rfl,hbs,e0,e1⟩:=(HV.out.below HBW.out).at_ hlt;obtain⟨x,HXE⟩:=nm_ (l[k]);rw[HXE.out] at e0 e1;obtain⟨W1,HW1⟩:=nm_ (wr.alloc (.cells #[.int .i64 x.1,.int .i64 x.2] 109));have HBU:Hid (bB w W1):=hI_ aF_;have hq:W1.heap[wr.heap.size]? =some (.cells #[.int .i64 x.1,.int .i64 x.2] 109 (0,0)):=by rw[←HW1.out];exact heap_alloc_new wr _
    have q0:W1.cell? ⟨wr.heap.size,0,none⟩=some (.int .i64 x.1):=cell_of_row _ _ 0 _ _ _ hq;have q1:W1.cell? ⟨wr.heap.size,1,none⟩=some (.int .i64 x.2):=cell_of_row _ _ 1 _ _ _ hq;have lq:wr.heap.size<W1.heap.size:=(Array.getElem?_eq_some_iff.1 hq).1;clear hq;have HL:=hI_ (HV.out.below HBU.out);have HT:=hI_ (HL.out.take (m:=k) a_);have HT1:=hI_ (HL.out.take (m:=k+1) a_);have hki:(k:Int)<(l.length:Int):=a_;have hk0:(0:Int)≤(k:Int):=a_;have hkc:k≤c:=a_;have hkc1:k+1≤c:=a_;obtain⟨b1,H1⟩:=nm_ (qcB x);obtain⟨b2,H2⟩:=nm_ (qc8 (l.take k) x);obtain⟨n3,H3⟩:=nm_ (qcX (l.take (k+1)) x.1);obtain⟨n4,H4⟩:=nm_ (qdL (l.take (k+1)) x.2);have HAT:Hid (qgD l k=(b1&& !b2&&decide (n3≤3)&&decide (n4≤2))):=hI_ (by unfold qgD;rw[qam hlt,HXE.out,H1.out,H2.out,H3.out,H4.out]);have hn3:n3≤l.length:=by rw[←H3.out];exact Nat.le_trans (qfL _ _) n_
    have hn4:n4≤l.length:=by rw[←H4.out];exact Nat.le_trans (qfK _ _) n_
    have hup:=qap W1;cases b1
    · go_wp2
      rw[HW1.out];refine qoH ?_;repeat(go_big_quiet_step (first
       |(go_at_call 146;exact qal (qdl H1 _))
       |(go_at_call 147;exact qal (qdn H2 _ _ (HT.out.below (qao _ _))))
       |(go_at_call 68;exact qal (qeS H3 _ _ (HT1.out.below (qao _ _))))
       |(go_at_call 148;exact qal (qdo H4 _ _ (HT1.out.below (qao _ _))))))
      refine wq_ fun w1 hb1=>?_;clear hup;go_wp2
      go_ret;exact⟨qaM (qdg hlt aP_).symm,HBU.out.trans (hb1.mono HBU.out.size)⟩
    cases b2
    case true=>
     go_wp2
     rw[HW1.out];refine qoH ?_;repeat(go_big_quiet_step (first
      |(go_at_call 146;exact qal (qdl H1 _))
      |(go_at_call 147;exact qal (qdn H2 _ _ (HT.out.below (qao _ _))))
      |(go_at_call 68;exact qal (qeS H3 _ _ (HT1.out.below (qao _ _))))
      |(go_at_call 148;exact qal (qdo H4 _ _ (HT1.out.below (qao _ _))))))
     refine wq_ fun w1 hb1=>?_;clear hup;go_wp2
     go_ret;exact⟨qaM (qdg hlt aP_).symm,HBU.out.trans (hb1.mono HBU.out.size)⟩
    by_cases h3:n3≤3
    case neg=>
     have h3':(3:Int)<(n3:Int):=a_;go_wp2
     rw[HW1.out];refine qoH ?_;repeat(go_big_quiet_step (first
      |(go_at_call 146;exact qal (qdl H1 _))
      |(go_at_call 147;exact qal (qdn H2 _ _ (HT.out.below (qao _ _))))
      |(go_at_call 68;exact qal (qeS H3 _ _ (HT1.out.below (qao _ _))))
      |(go_at_call 148;exact qal (qdo H4 _ _ (HT1.out.below (qao _ _))))))
     refine wq_ fun w1 hb1=>?_;clear hup;go_wp2
     go_ret;exact⟨qaM (qdg hlt (by rw[HAT.out];simp[h3])).symm,HBU.out.trans (hb1.mono HBU.out.size)⟩
    have d3:decide ((3:Int)<(n3:Int))=false:=by rw[decide_eq_false_iff_not];omega
    by_cases h4:n4≤2
    case neg=>
     have h4':(2:Int)<(n4:Int):=a_;go_wp2
     rw[HW1.out];refine qoH ?_;repeat(go_big_quiet_step (first
      |(go_at_call 146;exact qal (qdl H1 _))
      |(go_at_call 147;exact qal (qdn H2 _ _ (HT.out.below (qao _ _))))
      |(go_at_call 68;exact qal (qeS H3 _ _ (HT1.out.below (qao _ _))))
      |(go_at_call 148;exact qal (qdo H4 _ _ (HT1.out.below (qao _ _))))))
     refine wq_ fun w1 hb1=>?_;clear hup;go_wp2
     go_ret;exact⟨qaM (qdg hlt (by rw[HAT.out];simp[h4])).symm,HBU.out.trans (hb1.mono HBU.out.size)⟩
    have d4:decide ((2:Int)<(n4:Int))=false:=by rw[decide_eq_false_iff_not];omega
    go_wp2
    rw[HW1.out];refine qoH ?_;repeat(go_big_quiet_step (first
     |(go_at_call 146;exact qal (qdl H1 _))
     |(go_at_call 147;exact qal (qdn H2 _ _ (HT.out.below (qao _ _))))
     |(go_at_call 68;exact qal (qeS H3 _ _ (HT1.out.below (qao _ _))))
     |(go_at_call 148;exact qal (qdo H4 _ _ (HT1.out.below (qao _ _))))))
    refine wq_ fun w1 hb1=>?_;clear hup;go_wp2
    go_roundw
    case rel=>exact⟨k+1,a_,t_,qbh HNO.out (by rw[HAT.out];simp[h3,h4]),HBU.out.trans (hb1.mono HBU.out.size)⟩
    case measure=>simp[intOf];omega
  · obtain rfl:k=l.length:=a_;have HNO':Hid (qaG l=true):=hI_ (by rw[←qg4];exact HNO.out);go_wp2
    go_ret;exact⟨qaM HNO'.out.symm,HBW.out⟩
theorem qgu{l:List (Int×Int)}{b:Bool}(h:Hid (qaG l=b))(v:Value)(w:World)(hv:RP w v l):gV 66 #[v] w (.bool b):=by
 rw[←h.out];exact qhe l v w hv
theorem qkw(l m:List Int)(v u:Value)(w:World)(hv:RI w v l)(hu:RI w u m):gV 156 #[v,u] w (.bool (l==m)):=by
 have HV:=hI_ hv;have HU:=hI_ hu;have hm:=hv.len;have hm2:=hu.len;obtain⟨A,c,rfl,-,-,-⟩:=hv;obtain⟨A2,c2,rfl,-,-,-⟩:=hu;unfold maxLen at hm hm2;by_cases hne:l.length=m.length
 case neg=>
  have hn1:((l.length:Int)!=(m.length:Int))=true:=by simp;omega
  have HF:Hid ((l==m)=false):=hI_ (by rw[beq_eq_false_iff_ne];intro e;exact hne (by rw[e]));go_enter Tryz.func156,Tryz.ntmps156
  go_wp2
  go_ret;exact⟨qaM HF.out.symm,bR_ _ _⟩
 have hn1:((l.length:Int)!=(m.length:Int))=false:=by simp;omega
 have HNE:=hI_ hne;clear hne;go_enter Tryz.func156,Tryz.ntmps156
 go_wp2
 go_loopw [13] (fun i wr=>∃ k:Nat,k≤l.length∧i=.int .i64 k∧l.take k=m.take k∧bB w wr) (fun i _=>l.length-(intOf i).toNat)
 case atStart=>exact⟨0,Nat.zero_le _,rfl,rfl,bR_ _ _⟩
 case round=>
  obtain⟨k,hk,rfl,hno,hbw⟩:=hrel;have HNO:=hI_ hno;clear hno;have HBW:=hI_ hbw;clear hbw;by_cases hlt:k<l.length
  · have hlt2:k<m.length:=by have:=HNE.out;omega
    obtain⟨_,_,hA,_,_,hc⟩:=HV.out.below HBW.out;cases hA;obtain⟨b,o,rfl,hbs,hc⟩:=hc a_;have e1:=hc k hlt;obtain⟨_,_,hA,_,_,hc2⟩:=HU.out.below HBW.out;cases hA;obtain⟨b',o',rfl,hbs',hc2⟩:=hc2 a_;have e2:=hc2 k hlt2;clear hc hc2;have hki:(k:Int)<(l.length:Int):=a_;have hki2:(k:Int)<(m.length:Int):=a_;have hk0:(0:Int)≤(k:Int):=a_;have HY:Hid (l[k]=m[k]→l.take (k+1)=m.take (k+1)):=hI_ (fun h=>by rw[qaZ hlt,qaZ hlt2,HNO.out,h]);have HN:Hid (l[k]≠m[k]→(l==m)=false):=hI_ (fun h=>by rw[beq_eq_false_iff_ne];intro e;subst e;exact h rfl);generalize l[k]=x at*
    generalize m[k]=y at*
    have hup:=qap wr;by_cases hxy:x=y
    · have hxy':(x !=y)=false:=by simp[hxy]
      go_wp2
      refine qoH ?_;repeat(go_big_quiet_step (fail))
      refine wq_ fun w1 hb1=>?_;clear hup;go_wp2
      go_roundw
      case rel=>exact⟨k+1,a_,t_,HY.out hxy,HBW.out.trans (hb1.mono HBW.out.size)⟩
      case measure=>simp[intOf];omega
    · have hxy':(x !=y)=true:=by simp[hxy]
      have HXY:=hI_ hxy;clear hxy;go_wp2
      refine qoH ?_;repeat(go_big_quiet_step (fail))
      refine wq_ fun w1 hb1=>?_;clear hup;go_wp2
      go_ret;exact⟨qaM (HN.out HXY.out).symm,HBW.out.trans (hb1.mono HBW.out.size)⟩
  · obtain rfl:k=l.length:=a_;have HQ:Hid ((l==m)=true):=hI_ (by rw[beq_iff_eq];have h:=HNO.out;rw[List.take_length,HNE.out,List.take_length] at h;exact h);go_wp2
    go_ret;exact⟨qaM HQ.out.symm,HBW.out⟩
end Go.Proofs.YtekaaekpdebloaaGreatDoor

/- Words and walks of the law. -/
import Derived.Test.YtekaaekpdebloaaGreatDoorCJ
import Derived.Test.YtekaaekpdebloaaGreatDoorCR
import Derived.Test.YtekaaekpdebloaaGreatDoorDB
set_option linter.unusedVariables false
set_option linter.unusedSimpArgs false
namespace Go.Proofs.YtekaaekpdebloaaGreatDoor
open Go.RowKit
attribute [local go_sem ↓] Go.wp_at_zero Go.wp_at_succ

theorem qo3{l:List Bool}{n:Int}(h:Hid (qeG l=n))(v:Value)(w:World)(hv:RB w v l):Calls Tryz.prog 24 #[v] w fun e w'=>e=.returned (.int .i64 n)∧w=w':=by
 rw[←h.out];exact qg7 l v w hv
end Go.Proofs.YtekaaekpdebloaaGreatDoor
namespace Go.Proofs.YtekaaekpdebloaaGreatDoor
open Go.RowKit

theorem qwh{p:Int}{b:Bool}(h:Hid (inB p 0 5=b))(w:World):Calls Tryz.prog 67 #[.int .i64 p] w fun e w'=>e=.returned (.bool b)∧w=w':=by
 rw[←h.out];exact qgK p w
theorem qvK{l:List (Int×Int)}{p:Int}(hw:qaG l=true)(hp:inB p 0 5=true)(hc:qcX l p=0)(v:Value)(w:World)(hv:RP w v l):
 Calls Tryz.prog 32 #[v,.int .i64 p] w fun e w'=>e=.returned (.int .i64 3)∧Below w.heap.size w w':=by
 have HW:=hI_ hw;have HP:=hI_ hp;have HC:=hI_ hc;have HV:=hI_ hv;obtain⟨A,c,rfl⟩:=hv.sl;clear hw hp hc hv;go_enter Tryz.func32,Tryz.ntmps32
 go_wp2_with fail
 refine(qgu HW _ w HV.out).mono ?_;rintro e w1 ⟨rfl,hb1⟩;have HB1:=hI_ hb1;clear hb1;go_wp2_with fail
 refine(qwh HP w1).mono ?_;rintro e w1' ⟨rfl,rfl⟩;go_wp2_with fail
 refine(qeS HC _ _ (HV.out.below HB1.out)).mono ?_;rintro e w2 ⟨rfl,hb2⟩;go_wp2_with fail
 go_ret;exact⟨rfl,HB1.out.trans (hb2.mono HB1.out.size)⟩
set_option maxHeartbeats 1600000 in
theorem qvN(la lb:List (Int×Int))(va vb:Value)(w:World)(ha:RP w va la)(hb:RP w vb lb):
 Calls Tryz.prog 31 #[va,vb] w fun e w'=>e=.returned (.bool (decide (la=lb)))∧Below w.heap.size w w':=by
 have HA:=hI_ ha;have HB:=hI_ hb;have hm:=ha.len;have hm2:=hb.len;obtain⟨A,c,rfl⟩:=ha.sl;obtain⟨A2,c2,rfl⟩:=hb.sl;unfold maxLen at hm hm2;clear ha hb;by_cases hl:la.length=lb.length;rotate_left
 · have hnn:((la.length:Int)!=(lb.length:Int))=true:=bne_iff_ne.2 a_;have hne:¬ la=lb:=fun h=>hl (by rw[h]);clear hl;go_enter Tryz.func31,Tryz.ntmps31
   go_wp2
   go_ret;exact⟨qaM (decide_eq_false hne).symm,bR_ _ _⟩
 have hnn:((la.length:Int)!=(lb.length:Int))=false:=by rw[hl];simp
 have HL:=hI_ hl;clear hl;go_enter Tryz.func31,Tryz.ntmps31
 go_wp2
 go_loopw [5] (fun i wr=>∃ k:Nat,k≤la.length∧i=.int .i64 k∧la.take k=lb.take k∧Below w.heap.size w wr) (fun i _=>la.length-(intOf i).toNat)
 case atStart=>exact⟨0,Nat.zero_le _,rfl,rfl,bR_ _ _⟩
 case round=>
  obtain⟨k,hk,rfl,htk,hbw⟩:=hrel;have HTK:=hI_ htk;clear htk;by_cases hlt:k<la.length
  · have hlt2:k<lb.length:=by rw[←HL.out];exact hlt
    obtain⟨b,o,rfl,hbs,e0,e1⟩:=(HA.out.below hbw).at_ hlt;obtain⟨b',o',rfl,hbs',d0,d1⟩:=(HB.out.below hbw).at_ hlt2;have HSN:Hid (la[k]=lb[k]→la.take (k+1)=lb.take (k+1)):=hI_ (fun h=>by
     rw[List.take_succ_eq_append_getElem hlt,List.take_succ_eq_append_getElem hlt2,HTK.out,h])
    have HNE:Hid (¬ la[k]=lb[k]→decide (la=lb)=false):=hI_ (fun h=>decide_eq_false (fun he=>h (by subst he;rfl)));obtain⟨x,HX⟩:=nm_ (la[k]);obtain⟨y,HY⟩:=nm_ (lb[k]);rw[HX.out] at e0 e1;rw[HY.out] at d0 d1;have hup:=qap wr;have hki:(k:Int)<(la.length:Int):=a_;have hki2:(k:Int)<(lb.length:Int):=a_;have hk0:(0:Int)≤(k:Int):=a_;by_cases hq:x=y
    · have HQ:=hI_ (HSN.out (by rw[HX.out,HY.out];exact hq));subst hq;go_wp2
      refine qoH ?_;repeat(go_big_quiet_step (fail))
      refine wq_ fun w1 hb1=>?_;clear hup;go_wp2
      go_roundw
      case rel=>exact⟨k+1,a_,t_,HQ.out,hbw.trans (hb1.mono hbw.size)⟩
      case measure=>simp[intOf];omega
    · have hd:=HNE.out (by rw[HX.out,HY.out];exact hq);obtain⟨x0,x1⟩:=x;obtain⟨y0,y1⟩:=y;have HBW:=hI_ hbw;clear hbw;by_cases h0:x0=y0
      · have h1:(x1==y1)=false:=by simpa using(fun h=>hq (by rw[h0,h]))
        subst h0;clear hq;go_wp2
        refine qoH ?_;repeat(go_big_quiet_step (fail))
        refine wq_ fun w1 hb1=>?_;clear hup;go_wp2
        go_ret;exact⟨qaM hd.symm,HBW.out.trans (hb1.mono HBW.out.size)⟩
      · have h1:(x0==y0)=false:=by simpa using h0
        clear hq h0;go_wp2
        refine qoH ?_;repeat(go_big_quiet_step (fail))
        refine wq_ fun w1 hb1=>?_;clear hup;go_wp2
        go_ret;exact⟨qaM hd.symm,HBW.out.trans (hb1.mono HBW.out.size)⟩
  · have HD:Hid (la=lb):=hI_ (by
     have h1:=HTK.out;rwa[List.take_of_length_le a_,List.take_of_length_le (by have:=HL.out;omega)] at h1)
    go_wp2
    go_ret;exact⟨qaM (decide_eq_true HD.out).symm,hbw⟩
theorem qv3{la lb:List (Int×Int)}{b:Bool}(h:Hid (decide (la=lb)=b))(va vb:Value)(w:World)(ha:RP w va la)(hb:RP w vb lb):
 Calls Tryz.prog 31 #[va,vb] w fun e w'=>e=.returned (.bool b)∧Below w.heap.size w w':=by
 rw[←h.out];exact qvN la lb va vb w ha hb
theorem qvW(l:List (Int×Int))(a:Int×Int)(p:Int):qdL (l++[a]) p=qdL l p+if a.2=p then 1 else 0:=by
 unfold qdL;rw[List.countP_append];simp[List.countP_cons]
set_option maxHeartbeats 1600000 in
theorem qvP(l:List (Int×Int))(m:Int)(v:Value)(w:World)(hv:RP w v l):
 Calls Tryz.prog 30 #[v,.int .i64 m] w fun e w'=>e=.returned (.int .i64 (qdL l m:Nat))∧Below w.heap.size w w':=by
 have HV:=hI_ hv;have hm:=hv.len;unfold maxLen at hm;obtain⟨A,c,rfl⟩:=hv.sl;clear hv;go_enter Tryz.func30,Tryz.ntmps30
 go_wp2
 go_loop [5,6] (fun n i=>∃ k:Nat,k≤l.length∧i=.int .i64 k∧n=.int .i64 (qdL (l.take k) m:Nat)) (fun _ i=>l.length-(intOf i).toNat)
 case atStart=>exact⟨0,Nat.zero_le _,rfl,rfl⟩
 case round=>
  obtain⟨k,hk,rfl,rfl⟩:=hrel;have hle:qdL (l.take k) m≤k:=Nat.le_trans List.countP_le_length (by rw[List.length_take];omega);obtain⟨n,HN⟩:=nm_ (qdL (l.take k) m);rw[HN.out] at hle ⊢;by_cases hlt:k<l.length
  · obtain⟨b,o,rfl,hbs,e0,e1⟩:=HV.out.at_ hlt;have hki:(k:Int)<(l.length:Int):=a_;have hk0:(0:Int)≤(k:Int):=a_;have HSN:Hid (qdL (l.take (k+1)) m=n+if l[k].2=m then 1 else 0):=hI_ (by
     rw[List.take_succ_eq_append_getElem hlt,qvW,HN.out])
    generalize l[k]=y at*
    by_cases h1:y.2=m
    · have h1':(y.2==m)=true:=bd_;have HS2:Hid (qdL (l.take (k+1)) m=n+1):=hI_ (by rw[HSN.out,if_pos h1]);clear h1;go_wp2
      go_round
      case rel=>exact⟨k+1,a_,t_,by rw[HS2.out];go_num⟩
      case measure=>simp[intOf];omega
    · have h1':(y.2==m)=false:=bd_;have HS2:Hid (qdL (l.take (k+1)) m=n):=hI_ (by rw[HSN.out,if_neg h1];rfl);clear h1;go_wp2
      go_round
      case rel=>exact⟨k+1,a_,t_,by rw[HS2.out]⟩
      case measure=>simp[intOf];omega
  · have hki:¬ (k:Int)<(l.length:Int):=a_;have HE:Hid (qdL l m=n):=hI_ (by rw[←HN.out,List.take_of_length_le a_]);go_wp2
    go_ret;exact⟨by rw[HE.out];rfl,bR_ _ _⟩
theorem qv5{l:List (Int×Int)}{m:Int}{n:Nat}(h:Hid (qdL l m=n))(v:Value)(w:World)(hv:RP w v l):
 Calls Tryz.prog 30 #[v,.int .i64 m] w fun e w'=>e=.returned (.int .i64 (n:Nat))∧Below w.heap.size w w':=by
 rw[←h.out];exact qvP l m v w hv
end Go.Proofs.YtekaaekpdebloaaGreatDoor
namespace Go.Proofs.YtekaaekpdebloaaGreatDoor
open Go.RowKit
attribute [local go_sem ↓] Go.wp_at_zero Go.wp_at_succ

theorem qwb{l:List Bool}{m:Nat}(h:l[m]? =some false):cnt (l.set m true)=cnt l+1:=by
 induction l generalizing m with
 |nil=>simp at h
 |cons b l ih=>
  cases m with
  |zero=>
   simp at h;subst h;simp[cnt]
  |succ m=>
   have:=ih (m:=m) (by simpa using h);unfold cnt at*;rw[List.set_cons_succ,List.count_cons,List.count_cons,this];omega
set_option maxHeartbeats 12800000 in
set_option maxRecDepth 100000 in
theorem FnWorldDeliver_any(bs:List UInt8)(v:Value)(w:World)(hv:RU w v bs)(he:qsC w):Calls Tryz.prog 9 #[v] w fun e w'=>e=.returned (.bool true)∧Below w.heap.size w w':=by
 have HV:=hI_ hv;have HER:=hI_ he;have HLT:=hI_ he.lt;clear he;obtain⟨A,c,rfl,n1,n2,n3⟩:=hv;unfold maxLen at n2;have hbm:bs.length≤9223372036854775807:=by have:=n1.1;omega
 clear n1 n2 n3;by_cases hl:1048576<bs.length
 · have hl':(1048576:Int)<(bs.length:Int):=a_;go_enter Tryz.func9,Tryz.ntmps9
   go_wp2
   go_ret;exact⟨rfl,bR_ _ _⟩
 have hl':¬ (1048576:Int)<(bs.length:Int):=a_;clear hl;go_enter Tryz.func9,Tryz.ntmps9
 go_wp2_with fail
 refine(qr9 bs _ w HV.out).mono ?_;rintro e w1 ⟨x,uF,uL,uA,uN,⟨kd,ea,eb,ec,et⟩,rfl,hd,hs,ht,hb1⟩;obtain⟨⟨A1,c1,rfl⟩,⟨A2,c2,rfl⟩,⟨A3,c3,rfl⟩,⟨A4,c4,rfl⟩⟩:=hs.sl;unfold evC;simp only at ht;obtain⟨p,HPP⟩:=nm_ w1.heap.size;obtain⟨W1,HW1⟩:=nm_ ((w1.alloc (.cells #[.int .i64 x.sec,.int .i64 x.bad,.slice A1 x.feeds.length c1,.slice A2 x.links.length c2,.slice A3 x.asked.length c3,.slice A4 x.net.length c4] 28)).alloc (.cells #[.int .i64 kd,.int .i64 ea,.int .i64 eb,.int .i64 ec,.string et] 30));have HB1:Hid (Below w.heap.size w W1):=hI_ bv_;have HS1:Hid (WdS W1 x (.slice A1 x.feeds.length c1) (.slice A2 x.links.length c2) (.slice A3 x.asked.length c3) (.slice A4 x.net.length c4)):=hI_ bo_;have HX1:Hid (W1.heap[p]? =some (.cells #[.int .i64 x.sec,.int .i64 x.bad,.slice A1 x.feeds.length c1,.slice A2 x.links.length c2,.slice A3 x.asked.length c3,.slice A4 x.net.length c4] 28 (0,0))):=hI_ bn_;have HE1:Hid (W1.heap[p+1]? =some (.cells #[.int .i64 kd,.int .i64 ea,.int .i64 eb,.int .i64 ec,.string et] 30 (0,0))):=hI_ bq_;have HD:=hI_ hd;have HTE:Hid (et.size≤maxLen):=hI_ (Nat.le_trans ht s_);clear hd hs hb1 ht hbm hl';obtain⟨t0,t1,t2,t3,t4,t5,tf⟩:=qaa HX1.out;obtain⟨v0,v1,v2,v3,v4,vf⟩:=qrL HE1.out;go_upto_region 4 with fail
 rw[HW1.out,HPP.out];go_wp2_with fail
 refine(qtD x ⟨kd,ea,eb,ec,et⟩ _ _ _ _ W1 HS1.out.r HD.out.t HTE.out (HER.out.next HLT.out HB1.out)).mono ?_;rintro e w2 ⟨vF,vL,vA,vN,rfl,hp2,hb2⟩;have hs2:=hp2.st;obtain⟨y,HY⟩:=nm_ (quj x ⟨kd,ea,eb,ec,et⟩);rw[HY.out] at hs2 ⊢;obtain⟨⟨B1,d1,rfl⟩,⟨B2,d2,rfl⟩,⟨B3,d3,rfl⟩,⟨B4,d4,rfl⟩⟩:=hs2.sl;obtain⟨q,HQ⟩:=nm_ w2.heap.size;obtain⟨W2,HW2⟩:=nm_ (w2.alloc (.cells #[.int .i64 y.sec,.int .i64 y.bad,.slice B1 y.feeds.length d1,.slice B2 y.links.length d2,.slice B3 y.asked.length d3,.slice B4 y.net.length d4] 28));have hb12:Below W1.heap.size W1 W2:=by rw[←HW2.out];exact qab hb2 _
 have HX2:=hI_ ((hb12.block _ (qai HX1.out)).trans HX1.out);have HE2:=hI_ ((hb12.block _ (qai HE1.out)).trans HE1.out);have HY2:Hid (W2.heap[q]? =some (.cells #[.int .i64 y.sec,.int .i64 y.bad,.slice B1 y.feeds.length d1,.slice B2 y.links.length d2,.slice B3 y.asked.length d3,.slice B4 y.net.length d4] 28 (0,0))):=hI_ bh_;have HS2:=hI_ (HS1.out.below hb12);have HT2:Hid (WdS W2 y (.slice B1 y.feeds.length d1) (.slice B2 y.links.length d2) (.slice B3 y.asked.length d3) (.slice B4 y.net.length d4)):=hI_ bi_;have HB2:=hI_ (HB1.out.trans (hb12.mono HB1.out.size));clear hp2 hb2 hs2 hb12 t0 t1 t2 t3 t4 t5 tf v0 v1 v2 v3 v4 vf;obtain⟨t0,t1,t2,t3,t4,t5,tf⟩:=qaa HX2.out;obtain⟨v0,v1,v2,v3,v4,vf⟩:=qrL HE2.out;go_upto_region 5 with fail
 rw[HW2.out,HQ.out];go_wp2_with fail
 refine(qtE x ⟨kd,ea,eb,ec,et⟩ _ _ _ _ W2 HS2.out HD.out.t HTE.out).mono ?_;rintro e w3 ⟨vF,vL,vA,vN,rfl,hs3,hb3⟩;rw[HY.out] at hs3 ⊢;obtain⟨⟨E1,e1,rfl⟩,⟨E2,e2,rfl⟩,⟨E3,e3,rfl⟩,⟨E4,e4,rfl⟩⟩:=hs3.sl;obtain⟨r,HR⟩:=nm_ w3.heap.size;obtain⟨W3,HW3⟩:=nm_ (w3.alloc (.cells #[.int .i64 y.sec,.int .i64 y.bad,.slice E1 y.feeds.length e1,.slice E2 y.links.length e2,.slice E3 y.asked.length e3,.slice E4 y.net.length e4] 28));have hb23:Below W2.heap.size W2 W3:=by rw[←HW3.out];exact qab hb3 _
 have HC3:Hid (DoW w p q r x y ⟨kd,ea,eb,ec,et⟩ (.slice A1 x.feeds.length c1) (.slice A2 x.links.length c2) (.slice A3 x.asked.length c3) (.slice A4 x.net.length c4) (.slice B1 y.feeds.length d1) (.slice B2 y.links.length d2) (.slice B3 y.asked.length d3) (.slice B4 y.net.length d4) (.slice E1 y.feeds.length e1) (.slice E2 y.links.length e2) (.slice E3 y.asked.length e3) (.slice E4 y.net.length e4) W3):=hI_ ⟨(hb23.block _ (qai HX2.out)).trans HX2.out,(hb23.block _ (qai HE2.out)).trans HE2.out,(hb23.block _ (qai HY2.out)).trans HY2.out,bj_,HS2.out.below hb23,HT2.out.below hb23,bk_,HB2.out.trans (hb23.mono HB2.out.size)⟩;clear hb23 hb3 hs3 t0 t1 t2 t3 t4 t5 tf v0 v1 v2 v3 v4 vf HX1 HE1 HX2 HE2 HY2 HS1 HS2 HT2 HB1 HB2;obtain⟨t0,t1,t2,t3,t4,t5,tf⟩:=qaa HC3.out.by_;obtain⟨z0,z1,z2,z3,z4,z5,zf⟩:=qaa HC3.out.bz;go_upto_region 6 with fail
 rw[HW3.out,HR.out];go_wp2_with fail
 refine(qcK y _ _ _ _ _ _ _ _ W3 HC3.out.sy.r HC3.out.sz.r).mono ?_;rintro e w4 ⟨rfl,hb4⟩;have HC4:=hI_ (HC3.out.below hb4);clear hb4 t0 t1 t2 t3 t4 t5 tf z0 z1 z2 z3 z4 z5 zf HC3;obtain⟨t0,t1,t2,t3,t4,t5,tf⟩:=qaa HC4.out.bx;go_wp2_with fail
 refine(qdO x _ _ _ _ w4 HC4.out.sx.r HD.out.t).mono ?_;rintro e w5 ⟨rfl,hb5⟩;have HC5:=hI_ (HC4.out.below hb5);clear hb5 t0 t1 t2 t3 t4 t5 tf HC4;obtain⟨bv,HBV⟩:=nm_ (qcc x);rw[HBV.out];obtain⟨t0,t1,t2,t3,t4,t5,tf⟩:=qaa HC5.out.by_;obtain⟨z0,z1,z2,z3,z4,z5,zf⟩:=qaa HC5.out.bz;cases bv
 · go_wp2_with fail
   refine(qcK y _ _ _ _ _ _ _ _ w5 HC5.out.sy.r HC5.out.sz.r).mono ?_;rintro e w6 ⟨rfl,hb6⟩;have HC6:=hI_ (HC5.out.below hb6);clear hb6 t0 t1 t2 t3 t4 t5 tf z0 z1 z2 z3 z4 z5 zf;go_wp2_with fail
   go_ret;exact⟨rfl,HC6.out.o⟩
 have HWX:Hid (WV x):=hI_ (qcq.1 HBV.out);have HWY:Hid (WV y):=hI_ bz_;have HYD:Hid (wdo x ⟨kd,ea,eb,ec,et⟩=y):=hI_ bB_;obtain⟨v0,v1,v2,v3,v4,vf⟩:=qrL HC5.out.be;obtain⟨p0,p1,p2,p3,p4,p5,pf⟩:=qaa HC5.out.bx;have hnx:=HWX.out.nn;by_cases hk:kd=7∧0≤ea∧ea<(x.net.length:Int);rotate_left
 · rcases(show ¬ kd=7∨kd=7∧ea<0∨kd=7∧¬ ea<0∧(x.net.length:Int)≤ea by omega) with h|⟨rfl,h⟩|⟨rfl,h,h2⟩
   all_goals
    clear hk;go_wp2_with fail
    refine(qcK y _ _ _ _ _ _ _ _ w5 HC5.out.sy.r HC5.out.sz.r).mono ?_;rintro e w6 ⟨rfl,hb6⟩;have HC6:=hI_ (HC5.out.below hb6);clear hb6 t0 t1 t2 t3 t4 t5 tf z0 z1 z2 z3 z4 z5 zf p0 p1 p2 p3 p4 p5 pf v0 v1 v2 v3 v4 vf;go_wp2_with fail
    go_ret;exact⟨rfl,HC6.out.o⟩
 obtain⟨rfl,h1_,h2_⟩:=hk;obtain⟨k,rfl⟩:∃ k:Nat,ea=k:=⟨ea.toNat,a_⟩
 have hkn:k<x.net.length:=a_;have hki:(k:Int)<(x.net.length:Int):=a_;have hk0:(0:Int)≤(k:Int):=a_;have hdn:=qvF HWX.out hkn;rw[show qgz x k false=y from HYD.out] at hdn;obtain⟨t,m,htx,hm,hto,hidx,hnet,hcs⟩:=hdn;obtain⟨pc,HPE⟩:=nm_ (x.net[k]);obtain⟨bn,on,vp,hA,hbn,n0,n1,n2,n3,n4,n5,hRI⟩:=HC5.out.sx.r.net.at_ hkn;subst hA;rw[HPE.out] at n0 n1 n2 n3 n4 hRI;obtain⟨vA,vc,rfl⟩:=hRI.sl';obtain⟨gp,HGP⟩:=nm_ w5.heap.size;obtain⟨V0,HV0⟩:=nm_ (w5.alloc (.cells #[.int .i64 pc.fr,.int .i64 pc.to_,.int .i64 pc.len,.int .i64 pc.idx,.string pc.txt,.slice vA pc.prf.length vc] 57));have hb50:Below w5.heap.size w5 V0:=by rw[←HV0.out];exact qab (bR_ _ _) _
 have HC0_:=hI_ (HC5.out.below hb50);have HNP:Hid (V0.heap[gp]? =some (.cells #[.int .i64 pc.fr,.int .i64 pc.to_,.int .i64 pc.len,.int .i64 pc.idx,.string pc.txt,.slice vA pc.prf.length vc] 57 (0,0))):=hI_ (by rw[←HV0.out,←HGP.out];exact heap_alloc_new _ _);rw[HPE.out] at hto hidx hcs;have HTM:=hI_ (And.intro hto hidx);have HFR:Hid (inB pc.fr 0 5=true):=hI_ (by
  have h1:=qak.1 (HWX.out.wi.pcs k hkn).1;have h2:=HWX.out.wi.n6;rw[HPE.out] at h1;exact qak.2 a_)
 clear hb50 hto hidx hnet hRI;go_upto_region 9 with fail
 rw[HV0.out,HGP.out];clear t0 t1 t2 t3 t4 t5 tf z0 z1 z2 z3 z4 z5 zf p0 p1 p2 p3 p4 p5 pf v0 v1 v2 v3 v4 vf n0 n1 n2 n3 n4 n5 hbn;obtain⟨p0,p1,p2,p3,p4,p5,pf⟩:=qaa HC0_.out.bx;obtain⟨t0,t1,t2,t3,t4,t5,tf⟩:=qaa HC0_.out.by_;obtain⟨r0,r1,r2,r3,r4,r5,rf⟩:=qaa HNP.out;rw[HTM.out.1] at r1;rw[HTM.out.2] at r3;have hyn:y.feeds.length=x.feeds.length:=by rw[←HYD.out];exact qvh _
 have hty:t<y.feeds.length:=by rw[hyn];exact htx
 have hax:t<x.asked.length:=by rw[HWX.out.na];exact htx
 have hay:t<y.asked.length:=by rw[HWY.out.na,hyn];exact htx
 have ht1:(t:Int)<(x.feeds.length:Int):=a_;have ht2:(t:Int)<(y.feeds.length:Int):=a_;have ht3:(t:Int)<(x.asked.length:Int):=a_;have ht4:(t:Int)<(y.asked.length:Int):=a_;have ht0:(0:Int)≤(t:Int):=a_;have hm1:=HC0_.out.sx.r.feeds.len;unfold maxLen at hm1;have hay_:qaG (y.asked[t])=true:=HWY.out.wd t hay;obtain⟨f,HFE⟩:=nm_ (x.feeds[t]);obtain⟨g,HGE⟩:=nm_ (y.feeds[t]);obtain⟨la,HLA⟩:=nm_ (x.asked[t]);obtain⟨lb,HLB⟩:=nm_ (y.asked[t]);obtain⟨n1_,HN1⟩:=nm_ (qeG f.hv);obtain⟨n2_,HN2⟩:=nm_ (qeG g.hv);have hl1:f.hv.length≤16:=by rw[←HFE.out];have:=qax (HWX.out.fd t htx).v;omega
 have hl2:g.hv.length≤16:=by rw[←HGE.out];have:=qax (HWY.out.fd t hty).v;omega
 have hc1:n1_=(cnt f.hv:Int):=by rw[←HN1.out];unfold qeG;rw[if_pos hl1]
 have hc2:n2_=(cnt g.hv:Int):=by rw[←HN2.out];unfold qeG;rw[if_pos hl2]
 have hk1:cnt f.hv≤f.hv.length:=List.count_le_length;have hk2:cnt g.hv≤g.hv.length:=List.count_le_length;have hr1:0≤n1_∧n1_≤16:=a_;have hr2:0≤n2_∧n2_≤16:=a_;rw[qam hty,qam htx,qam hay,qam hax,HFE.out,HGE.out,HLA.out,HLB.out] at hcs;rw[HLB.out] at hay_;have HWB:=hI_ hay_;clear hay_;have HCAS:=hI_ hcs;have HCN:=hI_ (And.intro hc1 hc2);clear hcs hc1 hc2;obtain⟨b,o,xb,xh,hA,hbs,e0,e1,e2,e3,e4,e5,hFk⟩:=HC0_.out.sx.r.feeds.at_ htx;subst hA;obtain⟨b2,o2,yb,yh,hA,hbs2,u0,u1,u2,u3,u4,u5,hG⟩:=HC0_.out.sy.r.feeds.at_ hty;subst hA;rw[HFE.out] at hFk;rw[HGE.out] at hG;obtain⟨A7,c7,rfl⟩:=hFk.hv.sl';obtain⟨A8,c8,rfl⟩:=hG.hv.sl';have HFV:=hI_ hFk.hv;have HGV:=hI_ hG.hv;have lp:=qai HC0_.out.bx;have lq:=qai HC0_.out.by_;have lr:=qai HNP.out;have hup:=qap V0;clear e0 e1 e2 e3 e4 u0 u1 u2 u3 u4;refine qoH ?_;repeat(go_big_quiet_step (first
  |(go_at_call_of 24 (Value.slice A8 g.hv.length c8);exact qaj (qo3 HN2 _ _ (HGV.out.below (qao _ _))))
  |(go_at_call_of 24 (Value.slice A7 f.hv.length c7);exact qaj (qo3 HN1 _ _ (HFV.out.below (qao _ _))))))
 refine wpQuiet_nil ?_;intro w8 hw8;have hb8:=qay hw8;have HC8:=hI_ (HC0_.out.below hb8);have HP8:=hI_ ((hb8.block _ (qai HNP.out)).trans HNP.out);clear hw8 hup hb8 p0 p1 p2 p3 p4 p5 pf t0 t1 t2 t3 t4 t5 tf r0 r1 r2 r3 r4 r5 rf e5 u5 hbs hbs2 hFk hG;obtain⟨p0,p1,p2,p3,p4,p5,pf⟩:=qaa HC8.out.bx;obtain⟨t0,t1,t2,t3,t4,t5,tf⟩:=qaa HC8.out.by_;obtain⟨r0,r1,r2,r3,r4,r5,rf⟩:=qaa HP8.out;rw[HTM.out.1] at r1;rw[HTM.out.2] at r3;obtain⟨b3,o3,va,hA,hbs3,h3,hR3⟩:=HC8.out.sy.r.asked.at_ hay;subst hA;obtain⟨b4,o4,vb,hA,hbs4,h4,hR4⟩:=HC8.out.sx.r.asked.at_ hax;subst hA;have HR3:=hI_ hR3;have HR4:=hI_ hR4;clear hR3 hR4;have lp:=qai HC8.out.bx;have lq:=qai HC8.out.by_;have lr:=qai HP8.out;have hup:=qap w8;rw[HLB.out] at HR3;rw[HLA.out] at HR4;have hcs:=HCAS.out;obtain⟨hc1,hc2⟩:=HCN.out;rcases hcs with⟨c1,c2⟩|⟨c1,c2,c3,c4,c5⟩|⟨c1,c2⟩
 · have hn:n2_=n1_:=by rw[hc1,hc2,c1]
   have hn1:¬ (n2_-n1_=1):=a_;have hn0:n2_-n1_=0:=a_;have HQ2:=hI_ c2;clear c1 c2 hc1 hc2 hk1 hk2;rw[HQ2.out] at HR3;go_wp2_with fail
   refine qoH ?_;repeat(go_big_quiet_step (first
    |(go_at_call 31;exact qal (qhE la _ _ _ (HR3.out.below (qao _ _)) (HR4.out.below (qao _ _))))))
   refine wpQuiet_nil ?_;intro w9 hw9;have HB9:=hI_ (qay hw9);clear hw9 hup;go_wp2_with fail
   go_ret;exact⟨rfl,HC8.out.o.trans (HB9.out.mono HC8.out.o.size)⟩
 · have hn:n2_=n1_+1:=by
    rw[hc1,hc2,c1];show((cnt (f.hv.set m true):Nat):Int)=_;rw[qwb (by rw[List.getElem?_eq_getElem c2,←qam c2 false,c3])];simp
   have hn1:n2_-n1_=1:=a_;have HCB:Hid (qdL lb m=0):=hI_ (by unfold qdL;rw[List.countP_eq_zero];intro a ha;simpa using c5 a ha);have HQ1:=hI_ c1;have HQ2:=hI_ c2;clear c1 c2 c3 c4 c5 hc1 hc2 hk1 hk2;go_wp2_with fail
   obtain⟨_,_,xb5,xh5,hA,hbs5,u0,u1,u2,u3,u4,u5,hG⟩:=HC8.out.sy.r.feeds.at_ hty;cases hA;rw[HGE.out] at hG;obtain⟨A9,c9,rfl⟩:=hG.hv.sl';have hmg:m<g.hv.length:=by rw[HQ1.out];show m<(f.hv.set m true).length;rw[List.length_set];exact HQ2.out
   have hmg':(m:Int)<(g.hv.length:Int):=a_;have hmg0:(0:Int)≤(m:Int):=a_;obtain⟨b6,o6,hA,hbs6,h6⟩:=R1.at_ hG.hv hmg;subst hA;rw[show g.hv[m]=true by simp only[HQ1.out,Fd.put,List.getElem_set_self]] at h6;refine qoH ?_;repeat(go_big_quiet_step (first
    |(go_at_call 30;exact qal (qv5 HCB _ _ (HR3.out.below (qao _ _))))))
   refine wpQuiet_nil ?_;intro w9 hw9;have HB9:=hI_ (qay hw9);clear hw9 hup;go_wp2_with fail
   go_ret;exact⟨rfl,HC8.out.o.trans (HB9.out.mono HC8.out.o.size)⟩
 · have hn:n2_=n1_:=by rw[hc1,hc2,c1]
   have hn1:¬ (n2_-n1_=1):=a_;have hn0:n2_-n1_=0:=a_;have HCP:Hid (qcX lb pc.fr=0):=hI_ (qlp c2);clear c1 c2 hc1 hc2 hk1 hk2;go_wp2_with fail
   obtain⟨sb,HSB⟩:=nm_ (decide (lb=la));cases sb
   all_goals
    refine qoH ?_;repeat(go_big_quiet_step (first
     |(go_at_call 31;exact qal (qv3 HSB _ _ _ (HR3.out.below (qao _ _)) (HR4.out.below (qao _ _))))
     |(go_at_call 32;exact qal (qvK HWB.out HFR.out HCP.out _ _ (HR3.out.below (qao _ _))))))
    refine wpQuiet_nil ?_;intro w9 hw9;have HB9:=hI_ (qay hw9);clear hw9 hup;go_wp2_with fail
    go_ret;exact⟨rfl,HC8.out.o.trans (HB9.out.mono HC8.out.o.size)⟩
end Go.Proofs.YtekaaekpdebloaaGreatDoor

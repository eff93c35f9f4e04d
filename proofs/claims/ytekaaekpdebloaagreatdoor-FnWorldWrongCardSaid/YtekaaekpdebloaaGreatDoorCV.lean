/- Words and walks of the law. -/
import Derived.Test.YtekaaekpdebloaaGreatDoorBZ
set_option linter.unusedVariables false
set_option linter.unusedSimpArgs false
namespace Go.Proofs.YtekaaekpdebloaaGreatDoor
open Go.RowKit

set_option maxHeartbeats 12800000 in
set_option maxRecDepth 100000 in
theorem qiO(x:Wd)(hx:WV x)(vF vL vA vN:Value)(w:World)(hF:qa6 w vF x.feeds):
 Calls Tryz.prog 25 #[.agg #[.int .i64 x.sec,.int .i64 x.bad,vF,vL,vA,vN]] w fun e w'=>e=.returned (.bool true)∧Below w.heap.size w w':=by
 obtain⟨W2,HW2⟩:=nm_ (w.alloc (.cells #[.int .i64 x.sec,.int .i64 x.bad,vF,vL,vA,vN] 28));have HB2:Hid (Below w.heap.size w W2):=hI_ (by rw[←HW2.out];exact(bR_ _ _).alloc (nr_ _) _);have hp:W2.heap[w.heap.size]? =some (.cells #[.int .i64 x.sec,.int .i64 x.bad,vF,vL,vA,vN] 28 (0,0)):=by rw[←HW2.out];exact heap_alloc_new w _
 have lp:=(Array.getElem?_eq_some_iff.1 hp).1;have HV:=hI_ (hF.below HB2.out);have HX:=hI_ hx;obtain⟨FA,Fc,rfl⟩:=hF.sl;have hm1:=hF.len;unfold maxLen at hm1;have hn0:0<x.feeds.length:=by have:=hx.wi.n1;omega
 have hn0':(0:Int)<(x.feeds.length:Int):=a_;obtain⟨p0,p1,p2,p3,p4,p5,pf⟩:=qaa hp;have HP:=hI_ hp;clear hp hF hx;go_enter Tryz.func25,Tryz.ntmps25
 go_wp2_with fail
 rw[HW2.out];go_wp2_with fail
 clear p0 p1 p2 p3 p4 p5 pf;go_loopw [3] (fun i wr=>∃ k:Nat,k≤x.feeds.length∧i=.int .i64 k∧Below W2.heap.size W2 wr) (fun i _=>x.feeds.length-(intOf i).toNat)
 case atStart=>exact⟨0,Nat.zero_le _,rfl,bR_ _ _⟩
 case round=>
  obtain⟨k,hk,rfl,hbw⟩:=hrel;obtain⟨wr1,rfl⟩:∃ W,W=wr:=⟨_,rfl⟩
  have HBW:=hI_ hbw;have lp':=nL_ lp hbw.size;obtain⟨p0,p1,p2,p3,p4,p5,pf⟩:=qaa ((hbw.block _ lp).trans HP.out);by_cases hlt:k<x.feeds.length
  · have hki:(k:Int)<(x.feeds.length:Int):=a_;have hk0:(0:Int)≤(k:Int):=a_;clear hbw;have hfd:=HX.out.fd k hlt;have hle:=qax hfd.v;have hle0:=qax HX.out.v0;have hld:=hfd.le;obtain⟨f,HFE⟩:=nm_ (x.feeds[k]);obtain⟨f0,HF0⟩:=nm_ x.f0;rw[HFE.out] at hle hld;rw[HF0.out] at hle0 hld;have HFD:Hid (qgA x.sec f0 f):=hI_ (by rw[←HF0.out,←HFE.out];exact hfd);have HS1:Hid (∀ t ∈ f.bl,t.size≤8):=hI_ (qbH HFD.out.v);have HS0:Hid (∀ t ∈ f0.bl,t.size≤8):=hI_ (by rw[←HF0.out];exact qbH HX.out.v0);have HLE:=hI_ hle;have HLE0:=hI_ hle0;have HLD:=hI_ hld;clear hfd hle hle0 hld;go_wp2_with fail
    clear p0 p1 p2 p3 p4 p5 pf lp';go_loopw [4] (fun i wr=>∃ j:Nat,j≤f.hv.length∧i=.int .i64 j∧Below W2.heap.size W2 wr) (fun i _=>f.hv.length-(intOf i).toNat)
    case atStart=>exact⟨0,Nat.zero_le _,rfl,HBW.out⟩
    case round=>
     obtain⟨j,hj,rfl,hbw⟩:=hrel;obtain⟨wr2,rfl⟩:∃ W,W=wr:=⟨_,rfl⟩
     have HBX:=hI_ hbw;have lp':=nL_ lp hbw.size;obtain⟨p0,p1,p2,p3,p4,p5,pf⟩:=qaa ((hbw.block _ lp).trans HP.out);obtain⟨b,o,xb,xh,hA,hbs,e0,e1,e2,e3,e4,e5,hFk⟩:=(HV.out.below hbw).at_ hlt;subst hA;obtain⟨_,_,yb,yh,hA,_,g0,g1,g2,g3,g4,g5,hG⟩:=(HV.out.below hbw).at0 hn0;cases hA;have hG':qaU wr2 f0 yb yh:=by rw[←HF0.out];exact hG
     rw[HFE.out] at hFk;obtain⟨xA,xc,rfl⟩:=hFk.bl.sl';obtain⟨yA,yc,rfl⟩:=hFk.hv.sl';obtain⟨zA,zc,rfl⟩:=hG'.bl.sl';have hml:=hFk.hv.len;unfold maxLen at hml;clear e0 e1 e2 e3 g0 g1 g2 g3 g5 hG hbw;by_cases hjt:j<f.hv.length
     · have hji:(j:Int)<(f.hv.length:Int):=a_;have hj0:(0:Int)≤(j:Int):=a_;have hjb:j<f.bl.length:=by have:=HLE.out;omega
       have hjb':(j:Int)<(f.bl.length:Int):=a_;have hjz:j<f0.bl.length:=by have:=HLE.out;have:=HLE0.out;have:=HLD.out;omega
       have hjz':(j:Int)<(f0.bl.length:Int):=a_;have hjz2:¬ f0.bl.length≤j:=a_;have hjz3:decide (f0.bl.length≤j)=false:=decide_eq_false hjz2;obtain⟨b1,o1,hA,hbs1,h1⟩:=R1.at_ hFk.hv hjt;subst hA;obtain⟨b2,o2,hA,hbs2,h2⟩:=R1.at_ hFk.bl hjb;subst hA;obtain⟨b3,o3,hA,hbs3,h3⟩:=R1.at_ hG'.bl hjz;subst hA;have hz1:=HS1.out _ (List.getElem_mem hjb);have hz0:=HS0.out _ (List.getElem_mem hjz);obtain⟨hv,HHV⟩:=nm_ (f.hv[j]);obtain⟨t,HT⟩:=nm_ (f.bl[j]);obtain⟨t0,HT0⟩:=nm_ (f0.bl[j]);obtain⟨d,HD⟩:=nm_ (qbi t.data.toList);rw[HHV.out] at h1;rw[HT.out] at h2 hz1;rw[HT0.out] at h3 hz0;have HZ1:=hI_ hz1;have HZ0:=hI_ hz0;clear hFk hG' hz1 hz0;have hup:=qap wr2;cases hv
       · go_wp2_with fail
         refine qoH ?_;repeat(go_big_quiet_step (fail))
         refine wq_ fun w1 hb1=>?_;clear hup p0 p1 p2 p3 p4 p5 pf;have HBY:=hI_ (HBX.out.trans (hb1.mono HBX.out.size));go_wp2_with fail
         go_roundw
         case rel=>exact⟨j+1,a_,t_,HBY.out⟩
         case measure=>simp[intOf];omega
       · have HD0:Hid (qbi t0.data.toList=d):=hI_ (by
          have:=HFD.out.bl j hjb (by rw[qam hjt,HHV.out]);rw[qam hjb,qam hjz,HT.out,HT0.out,HD.out] at this;exact this.symm)
         have hdd:(d !=d)=false:=k_;go_wp2_with fail
         refine qoH ?_;repeat(go_big_quiet_step (first
          |(go_at_call_of 28 (Value.string t);exact qaj (qbC HD _ HZ1.out))
          |(go_at_call 28;exact qaj (qbC HD0 _ HZ0.out))))
         refine wq_ fun w1 hb1=>?_;clear hup p0 p1 p2 p3 p4 p5 pf;have HBY:=hI_ (HBX.out.trans (hb1.mono HBX.out.size));go_wp2_with fail
         go_roundw
         case rel=>exact⟨j+1,a_,t_,HBY.out⟩
         case measure=>simp[intOf];omega
     · have hji:¬ (j:Int)<(f.hv.length:Int):=a_;clear hFk hG';go_wp2_with fail
       go_roundw
       case rel=>exact⟨k+1,a_,t_,HBX.out⟩
       case measure=>simp[intOf];omega
  · have hki:¬ (k:Int)<(x.feeds.length:Int):=a_;clear hbw;go_wp2_with fail
    go_ret;exact⟨rfl,HB2.out.trans (HBW.out.mono HB2.out.size)⟩
end Go.Proofs.YtekaaekpdebloaaGreatDoor
namespace Go.Proofs.YtekaaekpdebloaaGreatDoor

theorem qu5{sec:Int}{f0 f:Fd}(h:qgA sec f0 f)(hn:0<f.hd.len):qbE (qhr sec) f.hd=true:=by
 have h1:=h.v;unfold qaq at h1;simp only[Bool.and_eq_true,Bool.or_eq_true] at h1;rw[←h.pub];rcases h1.1.1.1.1.2 with h2|h2
 · unfold Hd.isZero at h2;simp only[Bool.and_eq_true,beq_iff_eq] at h2;omega
 · exact h2
theorem quY{x:Wd}(h:DW x){i j:Nat}(hi:i<x.feeds.length)(hj:j<x.feeds.length)(e:x.feeds[i].hd.len=x.feeds[j].hd.len):x.feeds[i].hd=x.feeds[j].hd:=by
 by_cases h0:x.feeds[i].hd.len=0
 · have a1:=h.z i;have a2:=h.z j;rw[qam hi] at a1;rw[qam hj] at a2;rw[a1 h0,a2 a_]
 · rcases(h.v.fd i hi).hd with h1|h1
   · exact absurd h1 h0
   · rcases(h.v.fd j hj).hd with h2|h2
     · omega
     · rw[h1,h2,e]
end Go.Proofs.YtekaaekpdebloaaGreatDoor

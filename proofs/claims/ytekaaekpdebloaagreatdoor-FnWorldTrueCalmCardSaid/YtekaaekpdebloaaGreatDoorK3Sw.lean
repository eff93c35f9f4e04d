/- Words and walks of the law. -/
import Derived.Test.YtekaaekpdebloaaGreatDoorK2Sw
import Derived.Test.YtekaaekpdebloaaGreatDoorCS5
set_option linter.unusedVariables false
set_option linter.unusedSimpArgs false
set_option maxHeartbeats 12800000
set_option maxRecDepth 100000
namespace Go.Proofs.YtekaaekpdebloaaGreatDoor
open Go.RowKit

theorem quF{x:Wd}(h:WV x):∀ j (hj:j<x.net.length),x.net[j].txt.size≤maxLen:=fun _ hj=>Nat.le_trans (h.wi.pcs _ hj).2.2.1 s_
theorem quO{x:Wd}{es:List Ev}(h:quM x es=true):quL x es=quX x es:=by unfold quL;rw[if_pos h]
theorem quZ{x:Wd}{es:List Ev}(h:quM x es=true):WV (quX x es):=by
 have h1:=h;unfold quM at h1;rw[Bool.and_eq_true] at h1;rw[←quU];exact(qcq.1 h1.1).playTo es _ (nr_ _)
theorem qva{x:Wd}(h:DW x)(es:List Ev):DW (quX x es):=by
 unfold quX;induction es generalizing x with
 |nil=>exact h
 |cons e es ih=>exact ih (h.do_ e)
theorem DW.txts{x:Wd}(h:DW x):∀ j (hj:j<x.net.length),x.net[j].txt.size≤maxLen:=quF h.v
end Go.Proofs.YtekaaekpdebloaaGreatDoor
namespace Go.Proofs.YtekaaekpdebloaaGreatDoor

theorem qv2{x:Wd}(h:WV x):qoK (qgl x)=qoK x:=by
 have c:=qhM h;unfold qoK;rw[qcq.2 c.wv,qcq.2 h,c.bad,c.links,c.n];rfl
theorem qwd{x:Wd}(h:WV x){k:Nat}(hk:k<x.feeds.length)(hf:qn3 x k):(x.feeds.getD k Fd.none).hv.length=x.f0.bl.length∧qeG (x.feeds.getD k Fd.none).hv=((x.feeds.getD k Fd.none).hv.length:Int):=by
 obtain⟨a1,a2,a3⟩:=qax h.v0;obtain⟨b1,b2,b3⟩:=qax (h.fdD hk).v;have e:=hf.1;rw[e] at b3;refine⟨a_,?_⟩;unfold qeG cnt;rw[if_pos a_,List.count_eq_length.2];intro b hb;obtain⟨i,hi,rfl⟩:=List.mem_iff_getElem.1 hb;have:=hf.2 i hi;rw[qam hi] at this;exact this.symm
end Go.Proofs.YtekaaekpdebloaaGreatDoor
namespace Go.Proofs.YtekaaekpdebloaaGreatDoor
open Go.RowKit

theorem qoP(x:Wd)(vF vL vK vN:Value)(w:World)(hx:WdR w x vF vL vK vN)(ht:∀ j (hj:j<x.net.length),x.net[j].txt.size≤maxLen):
 Calls Tryz.prog 23 #[.agg #[.int .i64 x.sec,.int .i64 x.bad,vF,vL,vK,vN]] w (qpf x w):=by
 obtain⟨V,HV⟩:=nm_ (qcc x);have HT:=hI_ ht;obtain⟨s,b,fs,ls,ks,ps⟩:=x;have hF:=hx.feeds;have hL:=hx.links;have hK:=hx.asked;have hN:=hx.net;simp only at hF hL hK hN ⊢;obtain⟨vA,vc,rfl⟩:=hF.sl;obtain⟨lA,lc,rfl⟩:=hL.sl;obtain⟨kA,kc,rfl⟩:=hK.sl;obtain⟨nA,nc,rfl⟩:=hN.sl;obtain⟨q,HQQ⟩:=nm_ w.heap.size;obtain⟨W0,HW0⟩:=nm_ (w.alloc (.cells #[.int .i64 s,.int .i64 b,.slice vA fs.length vc,.slice lA ls.length lc,.slice kA ks.length kc,.slice nA ps.length nc] 28));have HB0:Hid (bB w W0):=hI_ q_;have hp:W0.heap[w.heap.size]? =some (.cells #[.int .i64 s,.int .i64 b,.slice vA fs.length vc,.slice lA ls.length lc,.slice kA ks.length kc,.slice nA ps.length nc] 28 (0,0)):=by
  rw[←HW0.out];exact heap_alloc_new w _
 have hs0:W0.heap.size=w.heap.size+1:=by rw[←HW0.out];simp
 have lp:=(Array.getElem?_eq_some_iff.1 hp).1;have HX:=hI_ (hx.below HB0.out);have hm:=hF.len;have hm2:=hL.len;unfold maxLen at hm hm2;have HP:=hI_ hp;obtain⟨p0,p1,p2,p3,p4,p5,pf⟩:=qaa hp;have HS0:=hI_ hs0;clear hx hF hL hK hN ht hp hs0;cases V
 · have HW:Hid (qoK ⟨s,b,fs,ls,ks,ps⟩=[]):=hI_ (by unfold qoK;rw[HV.out];rfl);go_enter Tryz.func23,Tryz.ntmps23
   go_wp2_with fail
   rw[HW0.out];refine(qoM HV _ _ _ _ W0 HX.out HT.out).mono ?_;rintro e w1 ⟨rfl,hb1⟩;have HB1:=hI_ (HB0.out.trans (hb1.mono HB0.out.size));clear p0 p1 p2 p3 p4 p5 pf hb1;go_wp2_with fail
   go_ret;exact⟨_,rfl,by rw[HW.out];exact O1.nil _ _ _ _,HB1.out⟩
 obtain⟨hn1,hn6,hlk⟩:=qoQ HV.out;simp only at hn1 hn6 hlk;have HLK:=hI_ hlk;obtain⟨n,HNN⟩:=nm_ fs.length;have HWR:Hid (qoK ⟨s,b,fs,ls,ks,ps⟩=qoL (qoJ b ls n n) n):=hI_ (by unfold qoK;rw[HV.out,HNN.out];rfl);obtain⟨i0,hi,hz0,hz1,hz2⟩:=info_parts qeM;have hmk:=fun W=>run_make_row (P:=Tryz.prog) 48 4 i0 (.bool false) Tryz.underlying48 hi hz0 hz1 rfl .i64 .i64 fs.length bS_ a_ W;clear hlk;have h0i:(0:Int)<(fs.length:Int):=a_;go_enter Tryz.func23,Tryz.ntmps23
 go_wp2_with fail
 rw[HW0.out];refine(qoM HV _ _ _ _ W0 HX.out HT.out).mono ?_;rintro e w1 ⟨rfl,hb1⟩;clear p0 p1 p2 p3 p4 p5 pf;obtain⟨p0,p1,p2,p3,p4,p5,pf⟩:=qaa ((hb1.block _ lp).trans HP.out);obtain⟨g,HGG⟩:=nm_ w1.heap.size;have hz:=O1.zeros (enc:=Value.bool) (e:=4) (w:=w1) (n:=fs.length) false s_;obtain⟨hz1',-⟩:=hz.setAt (j:=0) (by rw[List.length_replicate];omega) true;obtain⟨⟨u0,e0⟩,f0⟩:(∃ u,(w1.alloc (.cells (madeCells #[Value.bool false] fs.length) 4)).cell? ⟨w1.heap.size,0,none⟩=some u)∧(w1.alloc (.cells (madeCells #[Value.bool false] fs.length) 4)).frozen? ⟨w1.heap.size,0,none⟩=false:=by have:=hz.at_ (j:=0) (by rw[List.length_replicate];omega);exact⟨⟨_,this.1⟩,this.2⟩
 obtain⟨W2,HW2'⟩:∃ W,Hid (w1.alloc (.cells ((madeCells #[Value.bool false] fs.length).setIfInBounds 0 (.bool true)) 4)=W):=⟨_,hI_ rfl⟩
 have HW2:Hid ((w1.alloc (.cells (madeCells #[Value.bool false] fs.length) 4)).setCell ⟨w1.heap.size,0,none⟩ (.bool true)=W2):=hI_ (by rw[←HW2'.out];exact World.setCell_alloc_new _ _ _ _);have hb2:bB W0 W2:=by rw[←HW2.out];exact(hb1.alloc hb1.size _).setCell (p:=⟨w1.heap.size,0,none⟩) hb1.size _
 have ho2:O1 Value.bool W0.heap.size 4 W2 (.slice (some ⟨g,0,none⟩) fs.length fs.length) (qoJ b ls fs.length 0):=by
  rw[←HW2.out,←HGG.out];exact hz1'.mono hb1.size
 have HO2:=hI_ ho2;have HB2:=hI_ hb2;have lw1:=nL_ lp hb1.size;have hb1':=hI_ hb1;clear hz hz1' hb2 ho2 hb1;go_wp2_with fail
 rw[HW2'.out,HGG.out];clear hmk p0 p1 p2 p3 p4 p5 pf e0 f0;obtain⟨p0,p1,p2,p3,p4,p5,pf⟩:=qaa ((HB2.out.block _ lp).trans HP.out);go_wp2_with fail
 go_loopw [21] (fun i wr=>∃ k:Nat,k≤fs.length∧i=.int .i64 k∧O1 Value.bool W0.heap.size 4 wr (.slice (some ⟨g,0,none⟩) fs.length fs.length) (qoJ b ls fs.length k)∧bB W0 wr) (fun i _=>fs.length-(intOf i).toNat)
 case atStart=>exact⟨0,Nat.zero_le _,rfl,HO2.out,HB2.out⟩
 case round=>
  obtain⟨k,hk,rfl,ho,hbw⟩:=hrel;have HOK:=hI_ ho;have HBK:=hI_ hbw;have lpr:=nL_ lp hbw.size;clear p0 p1 p2 p3 p4 p5 pf;obtain⟨p0,p1,p2,p3,p4,p5,pf⟩:=qaa ((hbw.block _ lp).trans HP.out);clear ho hbw;by_cases hltk:k<fs.length
  case neg=>
   obtain rfl:k=fs.length:=a_;have hb9:=HB0.out.trans (HBK.out.mono HB0.out.size);have ho9:=HOK.out.mono HB0.out.size;obtain⟨st,HST⟩:=nm_ (qoJ b ls fs.length fs.length);rw[HST.out] at ho9;have hsl:st.length=fs.length:=by rw[←HST.out];exact qoO _
   have HSL:=hI_ hsl;have HO9:=hI_ ho9;have HB9:=hI_ hb9;clear ho9 hb9 hsl;have hI9:=O1.made (Value.int .i64) wr 3;have HI9:=hI_ (hI9.mono HB9.out.size);have HA9:=hI_ (HO9.out.alloc (.cells #[] 3));have HC9:=hI_ (HB9.out.alloc HB9.out.size (.cells #[] 3));clear hI9;go_wp2_with fail
   go_loopw [6,67] (fun t i wz=>∃ m:Nat,m≤fs.length∧i=.int .i64 m∧O1 (Value.int .i64) w.heap.size 3 wz t (qoL st m)∧O1 Value.bool w.heap.size 4 wz (.slice (some ⟨g,0,none⟩) fs.length fs.length) st∧bB w wz) (fun _ i _=>fs.length-(intOf i).toNat)
   case atStart=>exact⟨0,Nat.zero_le _,rfl,HI9.out,HA9.out,HC9.out⟩
   case round=>
    obtain⟨m,hm9,rfl,ho,hr,hbz⟩:=hrel;clear p0 p1 p2 p3 p4 p5 pf;by_cases hlt:m<fs.length
    case neg=>
     obtain rfl:m=fs.length:=a_;have HOZ:=hI_ ho;have HBZ:=hI_ hbz;clear ho hr hbz;go_wp2_with fail
     go_ret;exact⟨_,rfl,by rw[HWR.out,←HNN.out,HST.out];exact HOZ.out,HBZ.out⟩
    have hms:m<st.length:=by rw[HSL.out];exact hlt
    have e:=(hr.at_ hms).1;have hmi:(m:Int)<(fs.length:Int):=a_;have hm0:(0:Int)≤(m:Int):=a_;have lgz:=(hr.lt g rfl).2;cases hsm:st[m]
    · rw[hsm] at e;have HPK:=hI_ (qpo (st:=st) (m:=m) (by rw[qam hms];exact hsm));have HOZ:=hI_ ho;have HRZ:=hI_ hr;have HBZ:=hI_ hbz;clear ho hr hbz hsm;go_wp2_with fail
      go_roundw
      case rel=>exact⟨m+1,a_,t_,by rw[HPK.out];exact HOZ.out,HRZ.out,HBZ.out⟩
      case measure=>simp[intOf];omega
    · rw[hsm] at e;have HPK:=hI_ (qpj (st:=st) (m:=m) (by rw[qam hms];exact hsm));have hpl:(qoL st m).length≤100000000000:=by have:=qpi st m;omega
      have HPL:=hI_ hpl;have HRZ:=hI_ hr;have HBZ:=hI_ hbz;have HOZ:=hI_ ho;clear hr hbz hsm hpl;go_wp2_with (at_builtin;refine qpm ho HPL.out HBZ.out.size rfl rfl rfl rfl ?_;intro v3 w3 ho3 hg3)
      go_roundw
      case rel=>exact⟨m+1,a_,t_,by rw[HPK.out];exact ho3,HRZ.out.grown hg3 (O1.ne_ HRZ.out HOZ.out e_),HBZ.out.grown hg3 HBZ.out.size (fun k hk=>(HOZ.out.lt k hk).1)⟩
      case measure=>simp[intOf];omega
  have hkk:(k:Int)<(fs.length:Int):=a_;go_wp2_with fail
  go_loopw [26] (fun i wq=>∃ j:Nat,j≤ls.length∧i=.int .i64 j∧O1 Value.bool W0.heap.size 4 wq (.slice (some ⟨g,0,none⟩) fs.length fs.length) (qoN b ls (qoJ b ls fs.length k) j)∧bB W0 wq) (fun i _=>ls.length-(intOf i).toNat)
  case atStart=>exact⟨0,Nat.zero_le _,rfl,HOK.out,HBK.out⟩
  case round=>
   obtain⟨j,hj,rfl,ho,hbq⟩:=hrel;clear p0 p1 p2 p3 p4 p5 pf lpr;obtain⟨p0,p1,p2,p3,p4,p5,pf⟩:=qaa ((hbq.block _ lp).trans HP.out);have lpr:=nL_ lp hbq.size;by_cases hlt:j<ls.length
   case neg=>
    obtain rfl:j=ls.length:=a_;have HOQ:=hI_ ho;have HBQ:=hI_ hbq;clear ho hbq;go_wp2_with fail
    go_roundw
    case rel=>exact⟨k+1,a_,t_,HOQ.out,HBQ.out⟩
    case measure=>simp[intOf];omega
   obtain⟨_,o,hAe,hbs,e0,e1⟩:=(HX.out.links.below hbq).at_ hlt;cases hAe
   obtain⟨k1,k2,k3,k4⟩:=HLK.out j hlt;have HSN:=hI_ (qoR (bad:=b) (st:=qoJ b ls fs.length k) hlt);obtain⟨st,HST⟩:=nm_ (qoN b ls (qoJ b ls fs.length k) j);have hsl:st.length=fs.length:=by rw[←HST.out,qoT];exact qoO _
   rw[HST.out] at ho HSN;generalize ls[j]=y at*
   obtain⟨y1,y2⟩:=y;simp only at k1 k2 k3 k4 e0 e1;obtain⟨a,rfl⟩:∃ a:Nat,y1=(a:Int):=⟨y1.toNat,a_⟩
   obtain⟨d,rfl⟩:∃ d:Nat,y2=(d:Int):=⟨y2.toNat,a_⟩
   have ha:a<st.length:=a_;have hd:d<st.length:=a_;have hji:(j:Int)<(ls.length:Int):=a_;have hj0:(0:Int)≤(j:Int):=a_;obtain⟨W5,HW5⟩:=nm_ (wr.alloc (.cells #[.int .i64 (a:Int),.int .i64 (d:Int)] 99));obtain⟨r,HRR⟩:=nm_ wr.heap.size;have hb5:bB W0 W5:=by rw[←HW5.out];exact hbq.alloc hbq.size _
   have ho5:O1 Value.bool W0.heap.size 4 W5 (.slice (some ⟨g,0,none⟩) fs.length fs.length) st:=by rw[←HW5.out];exact ho.alloc _
   have hbx:W5.heap[r]? =some (.cells #[.int .i64 (a:Int),.int .i64 (d:Int)] 99 (0,0)):=by rw[←HW5.out,←HRR.out];exact heap_alloc_new wr _
   have lgr:=(ho.lt g rfl).2;have hgr:r≠g:=by rw[←HRR.out];omega
   have r0:W5.cell? ⟨r,0,none⟩=some (.int .i64 (a:Int)):=cell_of_row _ _ 0 _ _ _ hbx;have r1:W5.cell? ⟨r,1,none⟩=some (.int .i64 (d:Int)):=cell_of_row _ _ 1 _ _ _ hbx;obtain⟨c0,f0⟩:=ho5.at_ ha;obtain⟨c1,f1⟩:=ho5.at_ hd;have hlpg:w.heap.size≠g:=by have:=(ho.lt g rfl).1;omega
   have HOW:=hI_ ho5;have HBW:=hI_ hb5;obtain⟨t0,t1,t2,t3,t4,t5,tf⟩:=qaa ((hb5.block _ lp).trans HP.out);have HRW:Hid (wr.heap.size=r):=HRR;clear ho5 hb5 hbx ho hbq;rw[←HW5.out] at r0 r1 c0 c1 f0 f1 t1 t3;have hr:=HRR.out;cases h1:st[a]
   · rw[h1] at c0;have h1':=hI_ h1;clear h1;cases h2:st[d]'hd
     · rw[h2] at c1;have h2':=hI_ h2;clear h2;go_wp2_with fail
       go_roundw
       case rel=>
        rw[HW5.out];exact⟨j+1,a_,t_,by rw[HSN.out,show qoI b st ((a:Int),(d:Int))=st from by unfold qoI;simp only[Int.toNat_natCast];rw[qam ha,h1'.out];simp only[Bool.false_and,Bool.false_eq_true,if_false];rw[qam hd,h2'.out];rfl];exact HOW.out,HBW.out⟩
       case measure=>simp[intOf];omega
     · rw[h2] at c1;have h2':=hI_ h2;clear h2;by_cases h3:(d:Int)=b
       · have h3':((d:Int)!=b)=false:=by simp[h3]
         have h4':=hI_ h3';clear h3;go_wp2_with fail
         go_roundw
         case rel=>
          rw[HW5.out];exact⟨j+1,a_,t_,by rw[HSN.out,show qoI b st ((a:Int),(d:Int))=st from by unfold qoI;simp only[Int.toNat_natCast];rw[qam ha,h1'.out];simp only[Bool.false_and,Bool.false_eq_true,if_false];rw[qam hd,h2'.out,h4'.out];rfl];exact HOW.out,HBW.out⟩
         case measure=>simp[intOf];omega
       · have h3':((d:Int)!=b)=true:=by simp[h3]
         have h4':=hI_ h3';clear h3;go_wp2_with fail
         go_roundw
         case rel=>
          rw[HW5.out];exact⟨j+1,a_,t_,by rw[HSN.out,show qoI b st ((a:Int),(d:Int))=st.set a true from by unfold qoI;simp only[Int.toNat_natCast];rw[qam ha,h1'.out];simp only[Bool.false_and,Bool.false_eq_true,if_false];rw[qam hd,h2'.out,h4'.out];rfl];exact((HOW.out).setAt (j:=a) ha true).1,(HBW.out).setCell (p:=⟨g,a,none⟩) (HOW.out.lt g rfl).1 _⟩
         case measure=>simp[intOf];omega
   · rw[h1] at c0;have h1':=hI_ h1;clear h1;by_cases h5:(a:Int)=b
     · have h5':((a:Int)!=b)=false:=by simp[h5]
       have h6':=hI_ h5';clear h5;cases h2:st[d]'hd
       · rw[h2] at c1;have h2':=hI_ h2;clear h2;go_wp2_with fail
         go_roundw
         case rel=>
          rw[HW5.out];exact⟨j+1,a_,t_,by rw[HSN.out,show qoI b st ((a:Int),(d:Int))=st from by unfold qoI;simp only[Int.toNat_natCast];rw[qam ha,h1'.out,h6'.out];simp only[Bool.and_false,Bool.false_eq_true,if_false];rw[qam hd,h2'.out];rfl];exact HOW.out,HBW.out⟩
         case measure=>simp[intOf];omega
       · rw[h2] at c1;have h2':=hI_ h2;clear h2;by_cases h3:(d:Int)=b
         · have h3':((d:Int)!=b)=false:=by simp[h3]
           have h4':=hI_ h3';clear h3;go_wp2_with fail
           go_roundw
           case rel=>
            rw[HW5.out];exact⟨j+1,a_,t_,by rw[HSN.out,show qoI b st ((a:Int),(d:Int))=st from by unfold qoI;simp only[Int.toNat_natCast];rw[qam ha,h1'.out,h6'.out];simp only[Bool.and_false,Bool.false_eq_true,if_false];rw[qam hd,h2'.out,h4'.out];rfl];exact HOW.out,HBW.out⟩
           case measure=>simp[intOf];omega
         · have h3':((d:Int)!=b)=true:=by simp[h3]
           have h4':=hI_ h3';clear h3;go_wp2_with fail
           go_roundw
           case rel=>
            rw[HW5.out];exact⟨j+1,a_,t_,by rw[HSN.out,show qoI b st ((a:Int),(d:Int))=st.set a true from by unfold qoI;simp only[Int.toNat_natCast];rw[qam ha,h1'.out,h6'.out];simp only[Bool.and_false,Bool.false_eq_true,if_false];rw[qam hd,h2'.out,h4'.out];rfl];exact((HOW.out).setAt (j:=a) ha true).1,(HBW.out).setCell (p:=⟨g,a,none⟩) (HOW.out.lt g rfl).1 _⟩
           case measure=>simp[intOf];omega
     · have h5':((a:Int)!=b)=true:=by simp[h5]
       have h6':=hI_ h5';clear h5;obtain⟨hs6,-⟩:=HOW.out.setAt hd true;have g1:=(hs6.at_ (j:=d) (by rw[List.length_set];exact hd))
       rw[List.getElem_set_self] at g1;obtain⟨g2,g3⟩:=hs6.at_ (j:=a) (by rw[List.length_set];exact ha);have b6:=(HBW.out).setCell (p:=⟨g,d,none⟩) (HOW.out.lt g rfl).1 (.bool true);obtain⟨s0,s1,s2,s3,s4,s5,sf⟩:=qaa ((b6.block _ lp).trans HP.out);have z0:=(qpg (w:=W5) (m:=d) (o:=0) (u:=.bool true) hgr).trans (show W5.cell? ⟨r,0,none⟩=some (.int .i64 (a:Int)) by have h:=r0;rw[HW5.out] at h;exact h);have z1:=(qpg (w:=W5) (m:=d) (o:=1) (u:=.bool true) hgr).trans (show W5.cell? ⟨r,1,none⟩=some (.int .i64 (d:Int)) by have h:=r1;rw[HW5.out] at h;exact h);obtain⟨g1a,g1b⟩:=g1;rw[←HW5.out] at g1a g1b g2 g3 s1 z0 z1;have HS6:=hI_ hs6;have HB6:=hI_ b6;clear hs6 b6 s0 s2 s3 s4 s5 sf;by_cases h3:(d:Int)=b
       · have h3':((d:Int)!=b)=false:=by simp[h3]
         have h4':=hI_ h3';clear h3;go_wp2_with fail
         go_roundw
         case rel=>
          rw[HW5.out];exact⟨j+1,a_,t_,by rw[HSN.out,show qoI b st ((a:Int),(d:Int))=st.set d true from by unfold qoI;simp only[Int.toNat_natCast];rw[qam ha,h1'.out,h6'.out];simp only[Bool.and_self,if_true];rw[qam (by rw[List.length_set];exact hd),List.getElem_set_self,h4'.out];rfl];exact HS6.out,HB6.out⟩
         case measure=>simp[intOf];omega
       · have h3':((d:Int)!=b)=true:=by simp[h3]
         have h4':=hI_ h3';clear h3;go_wp2_with fail
         go_roundw
         case rel=>
          rw[HW5.out];exact⟨j+1,a_,t_,by rw[HSN.out,show qoI b st ((a:Int),(d:Int))=(st.set d true).set a true from by unfold qoI;simp only[Int.toNat_natCast];rw[qam ha,h1'.out,h6'.out];simp only[Bool.and_self,if_true];rw[qam (by rw[List.length_set];exact hd),List.getElem_set_self,h4'.out];rfl];exact(HS6.out.setAt (j:=a) (by rw[List.length_set];exact ha) true).1,HB6.out.setCell (p:=⟨g,a,none⟩) (HOW.out.lt g rfl).1 _⟩
         case measure=>simp[intOf];omega
end Go.Proofs.YtekaaekpdebloaaGreatDoor
namespace Go.Proofs.YtekaaekpdebloaaGreatDoor
open Go.RowKit
attribute [local go_sem ↓] Go.wp_at_zero Go.wp_at_succ

theorem qjc{x:Wd}(h:qcc x=true):qcL x=qgl x:=by unfold qcL;rw[if_pos h]
theorem qlh{x:Wd}(h:qcc x=true):WV (qcL x):=by rw[qjc h];exact(qhM (qcq.1 h)).wv
theorem qo3{l:List Bool}{n:Int}(h:Hid (qeG l=n))(v:Value)(w:World)(hv:RB w v l):gS 24 #[v] w (.int .i64 n):=by
 rw[←h.out];exact qg7 l v w hv
theorem qpr(w:World)(f:Fd)(a b:Value):∃ g,Value.pointer (some ⟨w.heap.size,0,none⟩)=.pointer (some ⟨g,0,none⟩)∧(w.alloc (.cells #[.int .i64 f.pub,.int .i64 f.hd.len,.int .i64 f.hd.dg,.int .i64 f.hd.sg,a,b] 50)).drew.heap[g]? =some (.cells #[.int .i64 f.pub,.int .i64 f.hd.len,.int .i64 f.hd.dg,.int .i64 f.hd.sg,a,b] 50 (0,0))∧bB w (w.alloc (.cells #[.int .i64 f.pub,.int .i64 f.hd.len,.int .i64 f.hd.dg,.int .i64 f.hd.sg,a,b] 50)).drew:=
 ⟨_,rfl,qbI (at0 _ _),qac (qab (bR_ _ _) _)⟩
end Go.Proofs.YtekaaekpdebloaaGreatDoor
namespace Go.Proofs.YtekaaekpdebloaaGreatDoor
open Go.RowKit

theorem qiO(x:Wd)(hx:WV x)(vF vL vA vN:Value)(w:World)(hF:qa6 w vF x.feeds):
 gV 25 #[.agg #[.int .i64 x.sec,.int .i64 x.bad,vF,vL,vA,vN]] w (.bool true):=by
 obtain⟨W2,HW2⟩:=nm_ (w.alloc (.cells #[.int .i64 x.sec,.int .i64 x.bad,vF,vL,vA,vN] 28));have HB2:Hid (bB w W2):=hI_ (by rw[←HW2.out];exact(bR_ _ _).alloc (nr_ _) _);have hp:W2.heap[w.heap.size]? =some (.cells #[.int .i64 x.sec,.int .i64 x.bad,vF,vL,vA,vN] 28 (0,0)):=by rw[←HW2.out];exact heap_alloc_new w _
 have lp:=(Array.getElem?_eq_some_iff.1 hp).1;have HV:=hI_ (hF.below HB2.out);have HX:=hI_ hx;obtain⟨FA,Fc,rfl⟩:=hF.sl;have hm1:=hF.len;unfold maxLen at hm1;have hn0:0<x.feeds.length:=by have:=hx.wi.n1;omega
 have hn0':(0:Int)<(x.feeds.length:Int):=a_;obtain⟨p0,p1,p2,p3,p4,p5,pf⟩:=qaa hp;have HP:=hI_ hp;clear hp hF hx;go_enter Tryz.func25,Tryz.ntmps25
 go_wp2_with fail
 rw[HW2.out];go_wp2_with fail
 clear p0 p1 p2 p3 p4 p5 pf;go_loopw [3] (fun i wr=>∃ k:Nat,k≤x.feeds.length∧i=.int .i64 k∧bB W2 wr) (fun i _=>x.feeds.length-(intOf i).toNat)
 case atStart=>exact⟨0,Nat.zero_le _,rfl,bR_ _ _⟩
 case round=>
  obtain⟨k,hk,rfl,hbw⟩:=hrel;obtain⟨wr1,rfl⟩:∃ W,W=wr:=⟨_,rfl⟩
  have HBW:=hI_ hbw;have lp':=nL_ lp hbw.size;obtain⟨p0,p1,p2,p3,p4,p5,pf⟩:=qaa ((hbw.block _ lp).trans HP.out);by_cases hlt:k<x.feeds.length
  · have hki:(k:Int)<(x.feeds.length:Int):=a_;have hk0:(0:Int)≤(k:Int):=a_;clear hbw;have hfd:=HX.out.fd k hlt;have hle:=qax hfd.v;have hle0:=qax HX.out.v0;have hld:=hfd.le;obtain⟨f,HFE⟩:=nm_ (x.feeds[k]);obtain⟨f0,HF0⟩:=nm_ x.f0;rw[HFE.out] at hle hld;rw[HF0.out] at hle0 hld;have HFD:Hid (qgA x.sec f0 f):=hI_ (by rw[←HF0.out,←HFE.out];exact hfd);have HS1:Hid (∀ t ∈ f.bl,t.size≤8):=hI_ (qbH HFD.out.v);have HS0:Hid (∀ t ∈ f0.bl,t.size≤8):=hI_ (by rw[←HF0.out];exact qbH HX.out.v0);have HLE:=hI_ hle;have HLE0:=hI_ hle0;have HLD:=hI_ hld;clear hfd hle hle0 hld;go_wp2_with fail
    clear p0 p1 p2 p3 p4 p5 pf lp';go_loopw [4] (fun i wr=>∃ j:Nat,j≤f.hv.length∧i=.int .i64 j∧bB W2 wr) (fun i _=>f.hv.length-(intOf i).toNat)
    case atStart=>exact⟨0,Nat.zero_le _,rfl,HBW.out⟩
    case round=>
     obtain⟨j,hj,rfl,hbw⟩:=hrel;obtain⟨wr2,rfl⟩:∃ W,W=wr:=⟨_,rfl⟩
     have HBX:=hI_ hbw;have lp':=nL_ lp hbw.size;obtain⟨p0,p1,p2,p3,p4,p5,pf⟩:=qaa ((hbw.block _ lp).trans HP.out);obtain⟨b,o,xb,xh,hA,hbs,e0,e1,e2,e3,e4,e5,hFk⟩:=(HV.out.below hbw).at_ hlt;subst hA;obtain⟨_,_,yb,yh,hA,_,g0,g1,g2,g3,g4,g5,hG⟩:=(HV.out.below hbw).at0 hn0;cases hA;have hG':qaU wr2 f0 yb yh:=by rw[←HF0.out];exact hG
     rw[HFE.out] at hFk;obtain⟨xA,xc,rfl⟩:=hFk.bl.sl';obtain⟨yA,yc,rfl⟩:=hFk.hv.sl';obtain⟨zA,zc,rfl⟩:=hG'.bl.sl';have hml:=hFk.hv.len;unfold maxLen at hml;clear e0 e1 e2 e3 g0 g1 g2 g3 g5 hG hbw;by_cases hjt:j<f.hv.length
     · have hji:(j:Int)<(f.hv.length:Int):=a_;have hj0:(0:Int)≤(j:Int):=a_;have hjb:j<f.bl.length:=by have:=HLE.out;omega
       have hjb':(j:Int)<(f.bl.length:Int):=a_;have hjz:j<f0.bl.length:=by have:=HLE.out;have:=HLE0.out;have:=HLD.out;omega
       have hjz':(j:Int)<(f0.bl.length:Int):=a_;have hjz2:¬ f0.bl.length≤j:=a_;have hjz3:decide (f0.bl.length≤j)=false:=decide_eq_false hjz2;obtain⟨b1,o1,hA,hbs1,h1⟩:=R1.at_ hFk.hv hjt;subst hA;obtain⟨b2,o2,hA,hbs2,h2⟩:=R1.at_ hFk.bl hjb;subst hA;obtain⟨b3,o3,hA,hbs3,h3⟩:=R1.at_ hG'.bl hjz;subst hA;have hz1:=HS1.out _ (List.getElem_mem hjb);have hz0:=HS0.out _ (List.getElem_mem hjz);obtain⟨hv,HHV⟩:=nm_ (f.hv[j]);obtain⟨t,HT⟩:=nm_ (f.bl[j]);obtain⟨t0,HT0⟩:=nm_ (f0.bl[j]);obtain⟨d,HD⟩:=nm_ (qbi t.data.toList);rw[HHV.out] at h1;rw[HT.out] at h2 hz1;rw[HT0.out] at h3 hz0;have HZ1:=hI_ hz1;have HZ0:=hI_ hz0;clear hFk hG' hz1 hz0;have hup:=qap wr2;cases hv
       · go_wp2_with fail
         refine qoH ?_;repeat(go_big_quiet_step (fail))
         refine wq_ fun w1 hb1=>?_;clear hup p0 p1 p2 p3 p4 p5 pf;have HBY:=hI_ (HBX.out.trans (hb1.mono HBX.out.size));go_wp2_with fail
         go_roundw
         case rel=>exact⟨j+1,a_,t_,HBY.out⟩
         case measure=>simp[intOf];omega
       · have HD0:Hid (qbi t0.data.toList=d):=hI_ (by
          have:=HFD.out.bl j hjb (by rw[qam hjt,HHV.out]);rw[qam hjb,qam hjz,HT.out,HT0.out,HD.out] at this;exact this.symm)
         have hdd:(d !=d)=false:=k_;go_wp2_with fail
         refine qoH ?_;repeat(go_big_quiet_step (first
          |(go_at_call_of 28 (Value.string t);exact qaj (qbC HD _ HZ1.out))
          |(go_at_call 28;exact qaj (qbC HD0 _ HZ0.out))))
         refine wq_ fun w1 hb1=>?_;clear hup p0 p1 p2 p3 p4 p5 pf;have HBY:=hI_ (HBX.out.trans (hb1.mono HBX.out.size));go_wp2_with fail
         go_roundw
         case rel=>exact⟨j+1,a_,t_,HBY.out⟩
         case measure=>simp[intOf];omega
     · have hji:¬ (j:Int)<(f.hv.length:Int):=a_;clear hFk hG';go_wp2_with fail
       go_roundw
       case rel=>exact⟨k+1,a_,t_,HBX.out⟩
       case measure=>simp[intOf];omega
  · have hki:¬ (k:Int)<(x.feeds.length:Int):=a_;clear hbw;go_wp2_with fail
    go_ret;exact⟨rfl,HB2.out.trans (HBW.out.mono HB2.out.size)⟩
end Go.Proofs.YtekaaekpdebloaaGreatDoor
namespace Go.Proofs.YtekaaekpdebloaaGreatDoor
open Go.RowKit
attribute [local go_sem ↓] Go.wp_at_zero Go.wp_at_succ

theorem FnWorldTrueCalm_any(bs:List UInt8)(v:Value)(w:World)(hv:RU w v bs)(he:qsC w):gV 4 #[v] w (.bool true):=by
 have HV:=hI_ hv;have HER:=hI_ he;have HLT:=hI_ he.lt;clear he;obtain⟨A,c,rfl,n1,n2,n3⟩:=hv;unfold maxLen at n2;have hbm:bs.length≤9223372036854775807:=by have:=n1.1;omega
 clear n1 n2 n3;by_cases hl:1048576<bs.length
 · have hl':(1048576:Int)<(bs.length:Int):=a_;go_enter Tryz.func4,Tryz.ntmps4
   go_wp2
   go_ret;exact⟨rfl,bR_ _ _⟩
 have hl':¬ (1048576:Int)<(bs.length:Int):=a_;clear hl;go_enter Tryz.func4,Tryz.ntmps4
 go_wp2_with fail
 refine(quK bs _ w HV.out).mono ?_;rintro e w1 ⟨x,uF,uL,uA,uN,es,vE,rfl,hd,hs,hE,ht,hn81,hb1⟩;obtain⟨⟨A1,c1,rfl⟩,⟨A2,c2,rfl⟩,⟨A3,c3,rfl⟩,⟨A4,c4,rfl⟩⟩:=hs.sl;obtain⟨EA,Ec,rfl⟩:=hE.sl;obtain⟨p,HPP⟩:=nm_ w1.heap.size;obtain⟨W1,HW1⟩:=nm_ (w1.alloc (.cells #[.int .i64 x.sec,.int .i64 x.bad,.slice A1 x.feeds.length c1,.slice A2 x.links.length c2,.slice A3 x.asked.length c3,.slice A4 x.net.length c4] 28));have HB1:Hid (bB w W1):=hI_ (by rw[←HW1.out];exact qab hb1 _);have hb01:bB w1 W1:=by rw[←HW1.out];exact qab (bR_ _ _) _
 have HS1:Hid (WdS W1 x (.slice A1 x.feeds.length c1) (.slice A2 x.links.length c2) (.slice A3 x.asked.length c3) (.slice A4 x.net.length c4)):=hI_ (hs.below hb01);have HX1:Hid (W1.heap[p]? =some (.cells #[.int .i64 x.sec,.int .i64 x.bad,.slice A1 x.feeds.length c1,.slice A2 x.links.length c2,.slice A3 x.asked.length c3,.slice A4 x.net.length c4] 28 (0,0))):=hI_ (by rw[←HW1.out,←HPP.out];exact heap_alloc_new _ _);have HE1:=hI_ (hE.below hb01);have HD:=hI_ hd;have HTE:Hid (∀ j (hj:j<es.length),es[j].txt.size≤maxLen):=hI_ (fun j hj=>Nat.le_trans (ht j hj) s_);have HN81:=hI_ hn81;clear hd hs hb1 ht hbm hl' hn81 hE hb01;have t0:=qaa HX1.out;go_upto_region 4 with fail
 rw[HW1.out,HPP.out];go_wp2_with fail
 refine(quP x es _ _ _ _ _ W1 HS1.out.r HD.out.txts HE1.out HTE.out (HER.out.next HLT.out HB1.out)).mono ?_;rintro e w2 ⟨vF,vL,vA,vN,rfl,hs2,hb2⟩;obtain⟨y,HY⟩:=nm_ (quL x es);obtain⟨ok,HOK⟩:=nm_ (quM x es);rw[HY.out] at hs2 ⊢;rw[HOK.out];obtain⟨⟨B1,d1,rfl⟩,⟨B2,d2,rfl⟩,⟨B3,d3,rfl⟩,⟨B4,d4,rfl⟩⟩:=hs2.sl;obtain⟨q,HQ⟩:=nm_ w2.heap.size;obtain⟨W2,HW2⟩:=nm_ (w2.alloc (.cells #[.int .i64 y.sec,.int .i64 y.bad,.slice B1 y.feeds.length d1,.slice B2 y.links.length d2,.slice B3 y.asked.length d3,.slice B4 y.net.length d4] 28));have hb12:bB W1 W2:=by rw[←HW2.out];exact qab hb2 _
 have HX2:=hI_ ((hb12.block _ (qai HX1.out)).trans HX1.out);have HE2:=hI_ (HE1.out.below hb12);have HY2:Hid (W2.heap[q]? =some (.cells #[.int .i64 y.sec,.int .i64 y.bad,.slice B1 y.feeds.length d1,.slice B2 y.links.length d2,.slice B3 y.asked.length d3,.slice B4 y.net.length d4] 28 (0,0))):=hI_ (by rw[←HW2.out,←HQ.out];exact heap_alloc_new _ _);have HS2:=hI_ (HS1.out.below hb12);have HT2:Hid (WdS W2 y (.slice B1 y.feeds.length d1) (.slice B2 y.links.length d2) (.slice B3 y.asked.length d3) (.slice B4 y.net.length d4)):=hI_ (by rw[←HW2.out];exact hs2.below (qab (bR_ _ _) _));have HB2:=hI_ (HB1.out.trans (hb12.mono HB1.out.size));clear hb2 hs2 hb12 t0;have t0:=qaa HX2.out;go_upto_region 5 with fail
 rw[HW2.out,HQ.out];go_wp2_with fail
 refine(quQ x es _ _ _ _ _ W2 HS2.out HD.out.txts HE2.out HTE.out).mono ?_;rintro e w3 ⟨vF,vL,vA,vN,rfl,hs3,hb3⟩;rw[HY.out] at hs3 ⊢;rw[HOK.out];obtain⟨⟨E1,e1,rfl⟩,⟨E2,e2,rfl⟩,⟨E3,e3,rfl⟩,⟨E4,e4,rfl⟩⟩:=hs3.sl;obtain⟨r,HR⟩:=nm_ w3.heap.size;obtain⟨W3,HW3⟩:=nm_ (w3.alloc (.cells #[.int .i64 y.sec,.int .i64 y.bad,.slice E1 y.feeds.length e1,.slice E2 y.links.length e2,.slice E3 y.asked.length e3,.slice E4 y.net.length e4] 28));have hb23:bB W2 W3:=by rw[←HW3.out];exact qab hb3 _
 have HC3:Hid (qvf w p q r x y (.slice A1 x.feeds.length c1) (.slice A2 x.links.length c2) (.slice A3 x.asked.length c3) (.slice A4 x.net.length c4) (.slice B1 y.feeds.length d1) (.slice B2 y.links.length d2) (.slice B3 y.asked.length d3) (.slice B4 y.net.length d4) (.slice E1 y.feeds.length e1) (.slice E2 y.links.length e2) (.slice E3 y.asked.length e3) (.slice E4 y.net.length e4) W3):=hI_ ⟨(hb23.block _ (qai HX2.out)).trans HX2.out,(hb23.block _ (qai HY2.out)).trans HY2.out,by rw[←HW3.out,←HR.out];exact heap_alloc_new _ _,HS2.out.below hb23,HT2.out.below hb23,by rw[←HW3.out];exact hs3.below (qab (bR_ _ _) _),HB2.out.trans (hb23.mono HB2.out.size)⟩;have HE3:=hI_ (HE2.out.below hb23);clear hb23 hb3 hs3 t0 HX1 HE1 HX2 HE2 HY2 HS1 HS2 HT2 HB1 HB2;have t0:=qaa HC3.out.by_;have z0:=qaa HC3.out.bz;go_upto_region 6 with fail
 rw[HW3.out,HR.out];cases ok
 · have hff:(false !=false)=false:=rfl;go_wp2_with fail
   refine(qcK y _ _ _ _ _ _ _ _ W3 HC3.out.sy.r HC3.out.sz.r).mono ?_;rintro e w4 ⟨rfl,hb4⟩;have HC4:=hI_ (HC3.out.below hb4);clear hb4 t0 z0 HC3;have t0:=qaa HC4.out.by_;have z0:=qaa HC4.out.bz;go_wp2_with fail
   refine(qcK y _ _ _ _ _ _ _ _ w4 HC4.out.sy.r HC4.out.sz.r).mono ?_;rintro e w5 ⟨rfl,hb5⟩;have HC5:=hI_ (HC4.out.below hb5);clear hb5 t0 z0;go_wp2_with fail
   go_ret;exact⟨rfl,HC5.out.o⟩
 go_wp2_with fail
 refine(qcK y _ _ _ _ _ _ _ _ W3 HC3.out.sy.r HC3.out.sz.r).mono ?_;rintro e w4 ⟨rfl,hb4⟩;have HC4:=hI_ (HC3.out.below hb4);clear hb4 t0 z0 HC3;have HWY:Hid (WV y):=hI_ (by rw[←HY.out,quO HOK.out];exact quZ HOK.out);have t0:=qaa HC4.out.by_;have HDY:Hid (DW y):=hI_ (by rw[←HY.out,quO HOK.out];exact qva HD.out es);obtain⟨z,HZ⟩:=nm_ (qcL y);have HZC:Hid (z=qgl y):=hI_ (by rw[←HZ.out];exact qjc (qcq.2 HWY.out));have HWZ:Hid (WV z):=hI_ (by rw[←HZ.out];exact qlh (qcq.2 HWY.out));have HRD:Hid (∀ m ∈ qoK z,∃ k:Nat,m=k∧k<z.feeds.length∧qn3 z k):=hI_ (by rw[HZC.out];exact qoS HWY.out HDY.out.z);have HRE:Hid (qoK y=qoK z):=hI_ (by rw[HZC.out];exact(qv2 HWY.out).symm);have HF0:Hid (z.f0=y.f0):=hI_ (by rw[HZC.out];exact(qkq HWY.out).1);go_wp2_with fail
 refine(qfG y _ _ _ _ w4 HC4.out.sy.r HDY.out.txts).mono ?_;rintro e w5 ⟨vF,vL,vA,vN,rfl,hp5,hb5⟩;have hs5:=hp5.st;rw[HZ.out] at hs5 ⊢;obtain⟨⟨F1,f1,rfl⟩,⟨F2,f2,rfl⟩,⟨F3,f3,rfl⟩,⟨F4,f4,rfl⟩⟩:=hs5.sl;obtain⟨h,HH⟩:=nm_ w5.heap.size;obtain⟨W5,HW5⟩:=nm_ (w5.alloc (.cells #[.int .i64 z.sec,.int .i64 z.bad,.slice F1 z.feeds.length f1,.slice F2 z.links.length f2,.slice F3 z.asked.length f3,.slice F4 z.net.length f4] 28));have hb55:bB w5 W5:=by rw[←HW5.out];exact qab (bR_ _ _) _
 have HC5:=hI_ (HC4.out.below (hb5.trans (hb55.mono hb5.size)));have HN5:Hid (W5.heap[h]? =some (.cells #[.int .i64 z.sec,.int .i64 z.bad,.slice F1 z.feeds.length f1,.slice F2 z.links.length f2,.slice F3 z.asked.length f3,.slice F4 z.net.length f4] 28 (0,0))):=hI_ (by rw[←HW5.out,←HH.out];exact heap_alloc_new _ _);have HS5:=hI_ (hs5.below hb55);clear hp5 hb5 hs5 hb55 t0;go_upto_region 9 with fail
 rw[HW5.out,HH.out];obtain⟨h0,h1,h2,h3,h4,h5,hf⟩:=qaa HN5.out;go_wp2_with fail
 refine(qoP z _ _ _ _ W5 HS5.out.r (quF HWZ.out)).mono ?_;rintro e w7 ⟨vo,rfl,ho7,hb7⟩;obtain⟨l,HL⟩:=nm_ (qoK z);rw[HL.out] at ho7 HRD HRE;obtain⟨oA,oc,rfl⟩:=ho7.sl;have hlm:=ho7.len;unfold maxLen at hlm;have HC7:=hI_ (HC5.out.below hb7);have HN7:=hI_ ((hb7.block _ (qai HN5.out)).trans HN5.out);have HS7:=hI_ (HS5.out.below hb7);have HO7:=hI_ ho7.r1;clear ho7 hb7 h0 h1 h2 h3 h4 h5 hf;go_wp2_with fail
 go_loopw [11] (fun i wr=>∃ k:Nat,k≤l.length∧i=.int .i64 k∧bB w7 wr) (fun i _=>l.length-(intOf i).toNat)
 case atStart=>exact⟨0,Nat.zero_le _,rfl,bR_ _ _⟩
 case round=>
  obtain⟨k,hk,rfl,hbw⟩:=hrel;obtain⟨wr1,rfl⟩:∃ W,W=wr:=⟨_,rfl⟩
  have HBW:=hI_ hbw;clear hbw;by_cases hlt:k<l.length
  · have hki:(k:Int)<(l.length:Int):=a_;have hk0:(0:Int)≤(k:Int):=a_;obtain⟨h0,h1,h2,h3,h4,h5,hf⟩:=qaa ((HBW.out.block _ (qai HN7.out)).trans HN7.out);have lp:=nL_ (qai HN7.out) HBW.out.size;obtain⟨oB,o,hA,hbs,e0⟩:=R1.at_ (HO7.out.below HBW.out) hlt;subst hA;obtain⟨m,hm,hmn,hfull⟩:=HRD.out _ (List.getElem_mem hlt);rw[hm] at e0;obtain⟨b1,o1,xb,xh,hA,hbs1,f0,f1_,f2_,f3_,f4_,f5,hF⟩:=(HS7.out.below HBW.out).r.feeds.at_ hmn;subst hA;obtain⟨hq1,hq2⟩:=qwd HWZ.out hmn hfull;obtain⟨f,HFE⟩:=nm_ (z.feeds[m]);rw[qam hmn,HFE.out] at hq1 hq2;rw[HFE.out] at f0 f1_ f2_ f3_ hF;have HBC:Hid (qeG f.hv=(f.hv.length:Int)):=hI_ hq2;have HLE:Hid (f.hv.length=y.f0.bl.length):=hI_ (by rw[hq1,HF0.out]);obtain⟨xA,xc,rfl⟩:=hF.bl.sl';obtain⟨yA,yc,rfl⟩:=hF.hv.sl';have HFV:=hI_ hF.hv;have hmi:(m:Int)<(z.feeds.length:Int):=a_;have hm0:(0:Int)≤(m:Int):=a_;clear hF hm hfull hq1 hq2;go_upto_region 13 with fail
    go_cut [12] (fun s12 wx=>∃ g,s12=.pointer (some ⟨g,0,none⟩)∧wx.heap[g]? =some (.cells #[.int .i64 f.pub,.int .i64 f.hd.len,.int .i64 f.hd.dg,.int .i64 f.hd.sg,.slice xA f.bl.length xc,.slice yA f.hv.length yc] 50 (0,0))∧bB wr1 wx)
    case first=>
     go_region_held3 (fun w'=>w'.cell? ⟨h,2,none⟩=some (.slice (some ⟨b1,o1,none⟩) z.feeds.length f1)∧w'.cell? ⟨oB,o+k,none⟩=some (.int .i64 (m:Int))∧w'.cell? ⟨b1,o1+m*6,none⟩=some (.int .i64 f.pub)∧w'.cell? ⟨b1,o1+m*6+1,none⟩=some (.int .i64 f.hd.len)∧w'.cell? ⟨b1,o1+m*6+2,none⟩=some (.int .i64 f.hd.dg)∧w'.cell? ⟨b1,o1+m*6+3,none⟩=some (.int .i64 f.hd.sg)∧w'.cell? ⟨b1,o1+m*6+4,none⟩=some (.slice xA f.bl.length xc)∧w'.cell? ⟨b1,o1+m*6+5,none⟩=some (.slice yA f.hv.length yc))
      (with_reducible refine⟨Eq.trans (Below.cell (B:=wr1.heap.size) ?_ lp) h2,Eq.trans (Below.cell (B:=wr1.heap.size) ?_ hbs) e0,Eq.trans (Below.cell (B:=wr1.heap.size) ?_ hbs1) f0,Eq.trans (Below.cell (B:=wr1.heap.size) ?_ hbs1) f1_,Eq.trans (Below.cell (B:=wr1.heap.size) ?_ hbs1) f2_,Eq.trans (Below.cell (B:=wr1.heap.size) ?_ hbs1) f3_,Eq.trans (Below.cell (B:=wr1.heap.size) ?_ hbs1) f4_,Eq.trans (Below.cell (B:=wr1.heap.size) ?_ hbs1) f5⟩ <;> (with_reducible repeat(first|exact bR_ _ _|refine qab ?_ _|refine qac ?_));done)
      (fail)
     all_goals
      go_wp2
      go_meet;exact qpr wr1 f _ _
    case rest=>
     obtain⟨g,rfl,hg,hb⟩:=hcut;obtain⟨wx,rfl⟩:∃ W,W=wc:=⟨_,rfl⟩
     have HBX:=hI_ (HBW.out.trans (hb.mono HBW.out.size));have HFX:=hI_ (HFV.out.below hb);clear h0 h1 h2 h3 h4 h5 hf f0 f1_ f2_ f3_ f4_ f5 e0 hb;have t0:=qaa (HC7.out.below HBX.out).by_;have g0:=qaa hg;have lp':=qai (HC7.out.below HBX.out).by_;have lg:=qai hg;have hy0:0<y.feeds.length:=HWY.out.wi.n1;have hy0':(0:Int)<(y.feeds.length:Int):=a_;obtain⟨b2,o2,yb,yh,hA,hbs2,d0,d1_,d2_,d3_,d4_,d5,hG⟩:=(HC7.out.below HBX.out).sy.r.feeds.at0 hy0;cases hA;obtain⟨zA,zc,rfl⟩:=hG.bl.sl';rw[show(y.feeds.getD 0 Fd.none).bl.length=f.hv.length from HLE.out.symm] at d4_;have hne:((f.hv.length:Int)!=(f.hv.length:Int))=false:=k_;have hup:=qap wx;clear hG hg;go_wp2_with fail
     refine qoH ?_;repeat(go_big_quiet_step ((go_at_call 24;exact qaj (qo3 HBC _ _ (HFX.out.below (qao _ _))))))
     refine wq_ fun w8 hb8=>?_;clear hup t0 g0 d0 d1_ d2_ d3_ d4_ d5;have HB8:=hI_ (HBX.out.trans (hb8.mono HBX.out.size));clear hb8;go_wp2_with fail
     go_roundw
     case rel=>exact⟨k+1,a_,t_,HB8.out⟩
     case measure=>simp[intOf];omega
  have hki:¬ (k:Int)<(l.length:Int):=a_;obtain⟨h0,h1,h2,h3,h4,h5,hf⟩:=qaa ((HBW.out.block _ (qai HN7.out)).trans HN7.out);go_wp2_with fail
  refine(qiO z HWZ.out _ _ _ _ wr1 (HS7.out.below HBW.out).r.feeds).mono ?_;rintro e w9 ⟨rfl,hb9⟩;have HB9:=hI_ (HBW.out.trans (hb9.mono HBW.out.size));clear hb9 h0 h1 h2 h3 h4 h5 hf;have t0:=qaa (HC7.out.below HB9.out).by_;go_wp2_with fail
  refine(qoP y _ _ _ _ w9 (HC7.out.below HB9.out).sy.r HDY.out.txts).mono ?_;rintro e w10 ⟨vo2,rfl,ho10,hb10⟩;rw[HRE.out] at ho10;obtain⟨qA,qc,rfl⟩:=ho10.sl;have HB10:=hI_ (HB9.out.trans (hb10.mono HB9.out.size));have HO10:=hI_ ho10.r1;clear ho10 hb10 t0;go_wp2_with fail
  refine(qhF l _ _ w10 (HO7.out.below HB10.out) HO10.out).mono ?_;rintro e w11 ⟨rfl,hb11⟩;have HB11:=hI_ (HB10.out.trans (hb11.mono HB10.out.size));go_wp2_with fail
  go_ret;exact⟨rfl,HC7.out.o.trans (HB11.out.mono HC7.out.o.size)⟩
end Go.Proofs.YtekaaekpdebloaaGreatDoor
namespace Go.Proofs.YtekaaekpdebloaaGreatDoor
open Go.RowKit Go.ChangeShapes Go.WideShapes Go.Deep

theorem qnx{n:Int}(h:(Lit.int .u8 n).wf=true):((UInt8.ofNat n.toNat).toNat:Int)=n:=by
 have h1:0≤n∧n≤255:=by
  simp[Lit.wf,IntKind.min,IntKind.max,IntKind.signed,IntKind.bits] at h;omega
 rw[UInt8.toNat_ofNat'];omega
theorem qiE{H:Type}{enc:TypeId×Value→H}{w:World}{base:Nat}{held:Bool}{v:Value}{d:DataW H}{p:List MemPlace}{r:Reach}{b0:Nat}(hv:Value.okWide Tryz.prog w r b0 22 v)(h:DataW.Trod enc Tryz.prog w base (fun _=>true) held 22 v d p):∃ bs,RU w v bs:=by
 obtain⟨a,n,c,rfl⟩:=okWide_slice Tryz.underlying22 hv;obtain⟨fuel,hf⟩:=h;obtain⟨l,h1,_⟩:=qnO (α:=UInt8) (Enc:=fun b=>Value.int .u8 (b.toNat:Int)) (Q:=fun _=>True) Tryz.underlying22 d_ (fun n V y hy=>by
  obtain⟨s,h1,_,h3⟩:=DataW.trod_int Tryz.underlying5 hy;refine⟨UInt8.ofNat s.toNat,?_,trivial⟩;rw[qnx h3];simpa using h1) hf
 exact⟨l,h1⟩
section
variable {H:Type} {enc:TypeId×Value→H} {w:World} {base:Nat} {held:Bool}
theorem C1:Tryz.prog.cellsOf 3=1:=by kernel_rfl
end
end Go.Proofs.YtekaaekpdebloaaGreatDoor

/- Words and walks of the law. -/
import Derived.Test.YtekaaekpdebloaaGreatDoorK1Sw
import Derived.Test.YtekaaekpdebloaaGreatDoorCV5
set_option linter.unusedVariables false
set_option linter.unusedSimpArgs false
set_option maxHeartbeats 12800000
set_option maxRecDepth 100000
namespace Go.Proofs.YtekaaekpdebloaaGreatDoor
open Go.RowKit
attribute [local go_sem ↓] Go.wp_at_zero Go.wp_at_succ

def qcL(x:Wd):Wd:=if qcc x=true then qgl x else Wd.zero
theorem qcA.made{w:World}{n:Nat}(hn:n≤maxLen):qcA w.heap.size (w.heap.size+1) (w.alloc (.cells (madeCells #[.slice none 0 0] (n*1)) 54)) (.slice (some ⟨w.heap.size,0,none⟩) n n) (List.replicate n []):=by
 refine⟨fun k hk=>(by cases hk;exact Nat.lt_succ_self _),fun t=>(#[Value.slice none 0 0]:Array Value)[t%(#[Value.slice none 0 0]:Array Value).size]!,by rw[List.length_replicate];exact ON.madeN _ hn,fun j hj=> ?_,fun i j _ _ k hk=> ?_⟩
 · rw[List.getElem_replicate];refine⟨fun k hk=> ?_,fun _=>.slice none 0 0,?_,fun j hj=>an_⟩
   · simp[Nat.mod_one] at hk;cases hk
   · simp[Nat.mod_one];exact ON.nil
 · simp[Nat.mod_one] at hk;cases hk
theorem WdP.turn{B C g n cap:Nat}{w w':World}{x y:Wd}{vL vA vN:Value}(h:WdP B C w x (.slice (some ⟨g,0,none⟩) n cap) vL vA vN)(hC:C≤w.heap.size)(hF:qa7 B w'.heap.size w' (.slice (some ⟨g,0,none⟩) n cap) y.feeds)(hg:w.grownBy w' (some g))
 (e1:y.links=x.links) (e2:y.asked=x.asked) (e3:y.net=x.net):WdP B w'.heap.size w' y (.slice (some ⟨g,0,none⟩) n cap) vL vA vN:=by
 obtain⟨_,F,h1,_⟩:=h.F;have hc:=Nat.le_trans hC hg.size;refine⟨hF,?_,?_,?_⟩
 · rw[e1];exact(h.L.keepT (h1.grew (T:=[99]) hg e_) e_).mono (nr_ _) hc
 · rw[e2];exact(h.A.next (h1.grew hg e_)).mono (nr_ _) hc
 · rw[e3];exact(h.N.next (h1.grew hg e_)).mono (nr_ _) hc
section
variable {B g gF cF:Nat} {y:Wd} {w0 w w':World} {vL vA:Value}
theorem qel.nk{k:Nat}{cur:Array Value}{t:TypeId}{fr:Nat×Nat}(h:qel B g gF cF y w0 w vL vA)(hk:w.heap[k]? =some (.cells cur t fr))(ht:50≠t):k≠gF:=by
 obtain⟨_,F,h1,_⟩:=h.p.F;exact fun e=>h1.nbox hk ht ca_
theorem qel.ne(h:qel B g gF cF y w0 w vL vA):g≠gF:=by
 obtain⟨_,F,h1,_⟩:=h.p.F;exact fun e=>h1.nbox h.box e_ ca_
theorem qel.gl(h:qel B g gF cF y w0 w vL vA):B≤gF∧gF<w.heap.size:=by
 obtain⟨_,F,h1,_⟩:=h.p.F;exact h1.lt gF rfl
theorem qel.give(h:qel B g gF cF y w0 w vL vA)(hw:WV y){i j:Nat}(hij:i≠j)(hi:i<y.feeds.length)(hj:j<y.feeds.length)(hL:qbk y i j=true):
 Calls Tryz.prog 63 #[.pointer (some ⟨g,0,none⟩),.int .i64 (i:Int),.int .i64 (j:Int)] w fun e w'=>e=.returned (.tuple #[])∧qel B g gF cF (qa5 y i j) w0 w' vL vA∧w.grownBy w' (some gF):=by
 obtain⟨t0,t1,t2,t3,t4,t5,tf⟩:=qaa h.box;refine(qn6 y i j g 0 B w.heap.size gF cF w hw hij hi hj hL (by simpa using t1) (by simpa using t2) (qai h.box) h.ne h.p.F (nr_ _)).mono ?_;rintro e w' ⟨rfl,hF,hg⟩;have gv:=qlD hw hij hi hj hL;refine⟨rfl,⟨?_,?_,h.b.grown hg h.bs (fun r hr=>by cases hr;exact h.gl.1),h.gB⟩,hg⟩
 · rw[gv.sec,gv.bad,gv.n];exact(hg.block g (qai h.box) (fun e=>by cases e;exact h.ne rfl)).trans h.box
 · rw[gv.n] at hF ⊢;exact h.p.turn (nr_ _) hF hg gv.links gv.asked gv.net
end
theorem qgn.give{P Z:Array Value}{g gF cF:Nat}{y:Wd}{w wr:World}{vL vA:Value}(h:qgn P Z g gF cF y w wr vL vA)(hw:WV y){i j:Nat}(hij:i≠j)(hi:i<y.feeds.length)(hj:j<y.feeds.length)(hL:qbk y i j=true):
 Calls Tryz.prog 63 #[.pointer (some ⟨g,0,none⟩),.int .i64 (i:Int),.int .i64 (j:Int)] wr fun e w'=>e=.returned (.tuple #[])∧qgn P Z g gF cF (qa5 y i j) w w' vL vA∧wr.grownBy w' (some gF):=by
 refine(h.i.give hw hij hi hj hL).mono ?_;rintro e w' ⟨rfl,h1,hg⟩;exact⟨rfl,⟨h1,(hg.block _ (qai h.p) (fun e=>by cases e;exact h.i.nk h.p e_ rfl)).trans h.p,(hg.block _ (qai h.z) (fun e=>by cases e;exact h.i.nk h.z e_ rfl)).trans h.z⟩,hg⟩
theorem qfG(x:Wd)(vF vL vA vN:Value)(w:World)(hx:WdR w x vF vL vA vN)(ht:∀ j (hj:j<x.net.length),x.net[j].txt.size≤maxLen):
 Calls Tryz.prog 22 #[.agg #[.int .i64 x.sec,.int .i64 x.bad,vF,vL,vA,vN]] w (qk3 w (qcL x)):=by
 obtain⟨W0,HW0⟩:=nm_ ((w.alloc (.cells #[.int .i64 x.sec,.int .i64 x.bad,vF,vL,vA,vN] 28)).alloc (.cells #[.int .i64 0,.int .i64 0,.slice none 0 0,.slice none 0 0,.slice none 0 0,.slice none 0 0] 28));have HB0:Hid (bB w W0):=hI_ ai_;have hs0:w.heap.size+2=W0.heap.size:=by rw[←HW0.out];simp
 have HP0:Hid (W0.heap[w.heap.size]? =some (.cells #[.int .i64 x.sec,.int .i64 x.bad,vF,vL,vA,vN] 28 (0,0))):=hI_ M_;have HZ0:Hid (W0.heap[w.heap.size+1]? =some (.cells #[.int .i64 0,.int .i64 0,.slice none 0 0,.slice none 0 0,.slice none 0 0,.slice none 0 0] 28 (0,0))):=hI_ D_;have hl0:w.heap.size<W0.heap.size:=a_;have hl1:w.heap.size+1<W0.heap.size:=a_;have HX0:Hid (WdR W0 x vF vL vA vN):=hI_ (hx.below HB0.out);have HT:=hI_ ht;obtain⟨FA,Fc,rfl⟩:=hx.feeds.sl;obtain⟨LA,Lc,rfl⟩:=hx.links.sl;have HLW:=hI_ hx.links;clear hs0 hx ht;obtain⟨p0,p1,p2,p3,p4,p5,pf⟩:=qaa HP0.out;go_enter Tryz.func22,Tryz.ntmps22
 go_wp2_with fail
 rw[HW0.out];go_wp2_with fail
 refine(qfi x _ _ _ _ W0 HX0.out HT.out).mono ?_;rintro e w1 ⟨rfl,hb1⟩;clear p0 p1 p2 p3 p4 p5 pf;have HP1:=hI_ ((hb1.block _ hl0).trans HP0.out);have HZ1:=hI_ ((hb1.block _ hl1).trans HZ0.out);have hm0:=nL_ hl0 hb1.size;have hm1:=nL_ hl1 hb1.size;have HB1:=hI_ (HB0.out.trans (hb1.mono HB0.out.size));have HX1:=hI_ (HX0.out.below hb1);clear hb1;obtain⟨bv,HBV⟩:=nm_ (qcc x);rw[HBV.out];cases bv
 · obtain⟨y0,y1,y2,y3,y4,y5,yf⟩:=qaa HZ1.out;have HR:Hid (qcL x=Wd.zero):=hI_ (by unfold qcL;rw[HBV.out];rfl);go_wp2_with fail
   refine bodyPost_ret (v:=.agg #[.int .i64 0,.int .i64 0,.slice none 0 0,.slice none 0 0,.slice none 0 0,.slice none 0 0]) (by simp[results,Tryz.results22,go_sem,y0,y1,y2,y3,y4,y5]) rfl ?_;rw[HR.out];exact⟨_,_,_,_,rfl,WdP.zero,qae HB1.out (Nat.le_succ _) _ _ _ _ _ _⟩
 have hwv:WV x:=qcq.1 HBV.out;have HQ:=hI_ hwv.quiet;have HNA:Hid (x.asked.length=x.feeds.length):=hI_ hwv.na;have HWV:=hI_ hwv;have hn6:x.feeds.length≤6:=hwv.wi.n6;have hn1:0<x.feeds.length:=by have:=hwv.wi.n1;omega
 have hl40:x.links.length≤40:=hwv.wi.nl;have HR:Hid (qcL x=qgl x):=hI_ (by unfold qcL;rw[HBV.out];rfl);clear hwv;obtain⟨p0,p1,p2,p3,p4,p5,pf⟩:=qaa HP1.out;go_wp2_with fail
 refine(qjf x _ _ _ _ w1 HX1.out (HWV.out.wi.sml a_)).mono ?_;rintro e w2 ⟨uF,uL,uA,uN,rfl,hp2,hb2⟩;obtain⟨gF,cF,rfl⟩:∃ g c,uF=.slice (some ⟨g,0,none⟩) x.feeds.length c:=by
  obtain⟨_,F,h1,_⟩:=hp2.F;obtain⟨g,c,h,_⟩:=h1.form hn1;exact⟨g,c,h⟩
 obtain⟨LB_,Ld,rfl⟩:=hp2.L.r.sl;obtain⟨AB,Ad,rfl⟩:=hp2.A.r.sl;obtain⟨NB,Nd,rfl⟩:=hp2.N.r.sl;clear p0 p1 p2 p3 p4 p5 pf;have HP2:=hI_ ((hb2.block _ hm0).trans HP1.out);have HZ2:=hI_ ((hb2.block _ hm1).trans HZ1.out);have HB2:=hI_ (HB1.out.trans (hb2.mono HB1.out.size));have HC2:=hI_ (hp2.mono HB1.out.size (nr_ _));have hm2:=nL_ hm0 hb2.size;have hm3:=nL_ hm1 hb2.size;clear hp2 hb2;go_upto_region 4 with fail
 obtain⟨W3,HW3⟩:=nm_ (w2.alloc (.cells #[.int .i64 x.sec,.int .i64 x.bad,.slice (some ⟨gF,0,none⟩) x.feeds.length cF,.slice LB_ x.links.length Ld,.slice AB x.asked.length Ad,.slice NB x.net.length Nd] 28));rw[HW3.out];obtain⟨g,HG⟩:=nm_ w2.heap.size;rw[HG.out];have hg3:W3.heap[g]? =some (.cells #[.int .i64 x.sec,.int .i64 x.bad,.slice (some ⟨gF,0,none⟩) x.feeds.length cF,.slice LB_ x.links.length Ld,.slice AB x.asked.length Ad,.slice NB x.net.length Nd] 28 (0,0)):=by rw[←HW3.out,←HG.out];exact heap_alloc_new _ _
 have hb3:bB w2 W3:=by rw[←HW3.out];exact qab (bR_ _ _) _
 have hsg:g<W3.heap.size:=qai hg3;have hs3:W3.heap.size=g+1:=by rw[←HW3.out,←HG.out];simp
 obtain⟨k0,k1,k2,k3,k4,k5,kf⟩:=qaa hg3;have HP3:=hI_ ((hb3.block _ hm2).trans HP2.out);have HZ3:=hI_ ((hb3.block _ hm3).trans HZ2.out);have HC3:=hI_ (HC2.out.below hb3);have HB3:=hI_ (HB2.out.trans (hb3.mono HB2.out.size));rw[HG.out] at hm2 hm3;go_upto_region 5 with fail
 obtain⟨W4,HW4⟩:=nm_ (W3.setCell ⟨g,5,none⟩ (.slice none 0 0));rw[HW4.out];have hg4:W4.heap[g]? =some (.cells #[.int .i64 x.sec,.int .i64 x.bad,.slice (some ⟨gF,0,none⟩) x.feeds.length cF,.slice LB_ x.links.length Ld,.slice AB x.asked.length Ad,.slice none 0 0] 28 (0,0)):=by rw[←HW4.out];exact qas (i:=5) hg3 _
 have hs4:W4.heap.size=W3.heap.size:=by rw[←HW4.out];simp
 have hk4:qaA LT2 W3 W4:=by rw[←HW4.out];exact qaA.set1 hg3 e_ _
 have hf4:∀ k,k≠g→W4.heap[k]? =W3.heap[k]? :=fun k hk=>by rw[←HW4.out];exact Below.heap_setCell _ _ _ _ hk
 have HP4:=hI_ ((hf4 _ a_).trans HP3.out);have HZ4:=hI_ ((hf4 _ a_).trans HZ3.out);have HC4:=hI_ (HC3.out.keep hk4);have HB4:Hid (bB w W4):=hI_ (by rw[←HW4.out];exact qaN HB3.out a_);clear k0 k1 k2 k3 k4 k5 kf hk4 hf4 hg3 hb3;obtain⟨p0,p1,p2,p3,p4,p5,pf⟩:=qaa HP4.out;obtain⟨k0,k1,k2,k3,k4,k5,kf⟩:=qaa hg4;obtain⟨i0,hi,hz0,hz1,hz2⟩:=info_parts qeL;have hmk:=fun W=>qhD (P:=Tryz.prog) 25 54 i0 _ Tryz.underlying25 hi hz0 (N:=1) (zc:= #[.slice none 0 0]) hz1 rfl .i64 .i64 x.feeds.length bS_ a_ W;go_upto_region 6 with fail
 obtain⟨WB,HWB⟩:=nm_ (W4.setCell ⟨g,4,none⟩ (.slice (some ⟨g+1,0,none⟩) x.feeds.length x.feeds.length));rw[HWB.out];obtain⟨W6,HW6⟩:=nm_ (WB.alloc (.cells (madeCells #[.slice none 0 0] x.feeds.length) 54));rw[HW6.out];have hkB:qaA LT2 W4 WB:=by rw[←HWB.out];exact qaA.set1 hg4 e_ _
 have hfB:∀ k,k≠g→WB.heap[k]? =W4.heap[k]? :=fun k hk=>by rw[←HWB.out];exact Below.heap_setCell _ _ _ _ hk
 have hsB:WB.heap.size=g+1:=by rw[←HWB.out];simp;omega
 have hgB:WB.heap[g]? =some (.cells #[.int .i64 x.sec,.int .i64 x.bad,.slice (some ⟨gF,0,none⟩) x.feeds.length cF,.slice LB_ x.links.length Ld,.slice (some ⟨g+1,0,none⟩) x.feeds.length x.feeds.length,.slice none 0 0] 28 (0,0)):=by rw[←HWB.out];exact qas (i:=4) hg4 _
 have hb6:bB WB W6:=by rw[←HW6.out];exact qab (bR_ _ _) _
 have hs6:W6.heap.size=g+1+1:=by rw[←HW6.out];simp;omega
 have hA6:qcA WB.heap.size (WB.heap.size+1) W6 (.slice (some ⟨WB.heap.size,0,none⟩) x.feeds.length x.feeds.length) (List.replicate x.feeds.length []):=by
  have:=qcA.made (w:=WB) (n:=x.feeds.length) s_;rw[Nat.mul_one,HW6.out] at this;exact this
 rw[hsB] at hA6;have hgw:w.heap.size≤g:=a_;have hS0:qgn #[.int .i64 x.sec,.int .i64 x.bad,.slice FA x.feeds.length Fc,.slice LA x.links.length Lc,vA,vN] #[.int .i64 0,.int .i64 0,.slice none 0 0,.slice none 0 0,.slice none 0 0,.slice none 0 0] g gF cF x.quiet w W6 (.slice LB_ x.links.length Ld) (.slice (some ⟨g+1,0,none⟩) x.feeds.length x.feeds.length):=by
  have hcB:=(HC4.out.keep hkB).below hb6;have hc6:w2.heap.size≤W6.heap.size:=by have:=HG.out;omega
  have hqA:x.quiet.asked=List.replicate x.feeds.length []:=by show List.replicate x.asked.length []=_;rw[HNA.out]
  refine⟨⟨(hb6.block g a_).trans hgB,⟨hcB.F.mono (nr_ _) hc6,hcB.L.mono (nr_ _) hc6,?_,qbd.nil⟩,?_,hgw⟩,(hb6.block _ a_).trans ((hfB _ a_).trans HP4.out),(hb6.block _ a_).trans ((hfB _ a_).trans HZ4.out)⟩
  · rw[hqA];exact hA6.mono a_ a_
  · have h1:bB w WB:=by rw[←HWB.out];exact qaN HB4.out hgw
    exact h1.trans (hb6.mono a_)
 have HS0:=hI_ hS0;clear p0 p1 p2 p3 p4 p5 pf k0 k1 k2 k3 k4 k5 kf hkB hfB hgB hb6 hA6 hS0 hmk hg4 hi hz0 hz1 hz2;obtain⟨p0,p1,p2,p3,p4,p5,pf⟩:=qaa HS0.out.p;go_wp2_with fail
 clear p0 p1 p2 p3 p4 p5 pf;go_loopw [21] (fun i wr=>∃ r:Nat,r≤x.feeds.length∧i=.int .i64 r∧qgn #[.int .i64 x.sec,.int .i64 x.bad,.slice FA x.feeds.length Fc,.slice LA x.links.length Lc,vA,vN] #[.int .i64 0,.int .i64 0,.slice none 0 0,.slice none 0 0,.slice none 0 0,.slice none 0 0] g gF cF (qdH x.links x.quiet r) w wr (.slice LB_ x.links.length Ld) (.slice (some ⟨g+1,0,none⟩) x.feeds.length x.feeds.length)) (fun i _=>x.feeds.length-(intOf i).toNat)
 case atStart=>exact⟨0,Nat.zero_le _,rfl,HS0.out⟩
 case round=>
  obtain⟨r,hr,rfl,hS⟩:=hrel;obtain⟨wr1,rfl⟩:∃ W,W=wr:=⟨_,rfl⟩
  have HS:=hI_ hS;have HCM:=hI_ (qfu HQ.out r);obtain⟨z,HZN⟩:=nm_ (qdH x.links x.quiet r);by_cases hlt:r<x.feeds.length
  case neg=>
   obtain rfl:r=x.feeds.length:=a_;have hki:¬ (x.feeds.length:Int)<(x.feeds.length:Int):=a_;obtain⟨y0,y1,y2,y3,y4,y5,yf⟩:=qaa hS.z;obtain⟨k0,k1,k2,k3,k4,k5,kf⟩:=qaa hS.i.box;have HE:Hid ((qdH x.links x.quiet x.feeds.length).sec=x.sec∧(qdH x.links x.quiet x.feeds.length).bad=x.bad):=hI_ ⟨HCM.out.sec,HCM.out.bad⟩;clear hS;go_wp2_with fail
   refine bodyPost_ret (v:=.agg #[.int .i64 (qdH x.links x.quiet x.feeds.length).sec,.int .i64 (qdH x.links x.quiet x.feeds.length).bad,.slice (some ⟨gF,0,none⟩) (qdH x.links x.quiet x.feeds.length).feeds.length cF,.slice LB_ x.links.length Ld,.slice (some ⟨g+1,0,none⟩) x.feeds.length x.feeds.length,.slice none 0 0]) (by simp[results,Tryz.results22,go_sem,y0,y1,y2,y3,y4,y5]) rfl ?_;rw[HR.out];show qk3 w (qdH x.links x.quiet x.feeds.length) _ _;have hk6:=qaA.set6 (T:=LT2) HS.out.z e_ (.int .i64 (qdH x.links x.quiet x.feeds.length).sec) (.int .i64 (qdH x.links x.quiet x.feeds.length).bad) (.slice (some ⟨gF,0,none⟩) (qdH x.links x.quiet x.feeds.length).feeds.length cF) (.slice LB_ x.links.length Ld) (.slice (some ⟨g+1,0,none⟩) x.feeds.length x.feeds.length) (.slice none 0 0);exact⟨_,_,_,_,rfl,(HS.out.i.p.keep hk6).mono (nr_ _) hk6.1,qae HS.out.i.b (Nat.le_succ _) _ _ _ _ _ _⟩
  have hki:(r:Int)<(x.feeds.length:Int):=a_;obtain⟨p0,p1,p2,p3,p4,p5,pf⟩:=qaa hS.p;clear hS;go_wp2_with fail
  clear p0 p1 p2 p3 p4 p5 pf;go_loopw [26] (fun i wr=>∃ k:Nat,k≤x.links.length∧i=.int .i64 k∧qgn #[.int .i64 x.sec,.int .i64 x.bad,.slice FA x.feeds.length Fc,.slice LA x.links.length Lc,vA,vN] #[.int .i64 0,.int .i64 0,.slice none 0 0,.slice none 0 0,.slice none 0 0,.slice none 0 0] g gF cF (qdb x.links z k) w wr (.slice LB_ x.links.length Ld) (.slice (some ⟨g+1,0,none⟩) x.feeds.length x.feeds.length)) (fun i _=>x.links.length-(intOf i).toNat)
  case atStart=>exact⟨0,Nat.zero_le _,rfl,by rw[←HZN.out];exact HS.out⟩
  case round=>
   obtain⟨k,hk,rfl,hT⟩:=hrel;obtain⟨wr2,rfl⟩:∃ W,W=wr:=⟨_,rfl⟩
   have HT_:=hI_ hT;by_cases hlk:k<x.links.length
   case neg=>
    obtain rfl:k=x.links.length:=a_;have hki2:¬ (x.links.length:Int)<(x.links.length:Int):=a_;clear hT;go_wp2_with fail
    go_roundw
    case rel=>exact⟨r+1,a_,t_,by show qgn _ _ _ _ _ (qdb x.links (qdH x.links x.quiet r) x.links.length) _ _ _ _;rw[HZN.out];exact HT_.out⟩
    case measure=>simp[intOf];omega
   have hki2:(k:Int)<(x.links.length:Int):=a_;have hk0:(0:Int)≤(k:Int):=a_;have HWZ:Hid (WV z∧z.links=x.links∧z.feeds.length=x.feeds.length):=hI_ (by rw[←HZN.out];exact⟨HCM.out.wv,HCM.out.links,HCM.out.n⟩);have HCT:=hI_ (qmZ HWZ.out.1 k (by rw[HWZ.out.2.1];exact hk));rw[HWZ.out.2.1] at HCT;have HSN:Hid (qdb x.links z (k+1)=qft (qdb x.links z k) x.links[k]):=hI_ (qer hlk);obtain⟨y,HY⟩:=nm_ (qdb x.links z k);rw[HY.out] at HCT HSN HT_;have HLK:Hid (y.links=x.links):=hI_ (HCT.out.links.trans HWZ.out.2.1);obtain⟨i,j,hl,hij,hjn,L1,L2⟩:=qhy HCT.out.wv (l:=x.links[k]) (by rw[HLK.out];exact List.getElem_mem hlk);have c1:=qho HCT.out.wv (i:=i) (j:=j) a_ a_ hjn L1;have HC1:=hI_ c1;obtain⟨bL,oL,hAL,hbsL,e0,e1⟩:=(HLW.out.below hT.i.b).at_ hlk;subst hAL;rw[hl] at HSN e0 e1;simp only at e0 e1;have HL1:=hI_ (And.intro L1 L2);have HIJ:=hI_ (And.intro hij hjn);clear hT L1 L2 hij hjn c1 hl;go_upto_region 11 with fail
   obtain⟨W7,HW7⟩:=nm_ (wr2.alloc (.cells #[.int .i64 (i:Int),.int .i64 (j:Int)] 99));rw[HW7.out];have hb7:bB wr2 W7:=by rw[←HW7.out];exact qab (bR_ _ _) _
   have hl7:W7.heap[wr2.heap.size]? =some (.cells #[.int .i64 (i:Int),.int .i64 (j:Int)] 99 (0,0)):=by rw[←HW7.out];exact heap_alloc_new _ _
   have HS7:=hI_ (HT_.out.below hb7);have HL7:=hI_ hl7;have l0:W7.cell? ⟨wr2.heap.size,0,none⟩=some (.int .i64 (i:Int)):=cell_of_row _ _ 0 _ _ _ hl7;have l1:W7.cell? ⟨wr2.heap.size,1,none⟩=some (.int .i64 (j:Int)):=cell_of_row _ _ 1 _ _ _ hl7;clear hb7 hl7 e0 e1;go_wp2_with fail
   refine(HS7.out.give HCT.out.wv (i:=i) (j:=j) (by have:=HIJ.out.1;omega) (by have:=HIJ.out;omega) HIJ.out.2 HL1.out.1).mono ?_;rintro e w8 ⟨rfl,hS8,hg8⟩;have hl8:=(hg8.block _ (qai HL7.out) (fun e=>by cases e;exact HS7.out.i.nk HL7.out e_ rfl)).trans HL7.out;have HS8:=hI_ hS8;clear l0 l1 hS8 hg8;have l0:w8.cell? ⟨wr2.heap.size,0,none⟩=some (.int .i64 (i:Int)):=cell_of_row _ _ 0 _ _ _ hl8;have l1:w8.cell? ⟨wr2.heap.size,1,none⟩=some (.int .i64 (j:Int)):=cell_of_row _ _ 1 _ _ _ hl8;clear hl8;go_wp2_with fail
   refine(HS8.out.give HC1.out.wv (i:=j) (j:=i) (by have:=HIJ.out.1;omega) (by rw[HC1.out.n];exact HIJ.out.2) (by rw[HC1.out.n];have:=HIJ.out;omega) (by rw[qf3 HC1.out.links];exact HL1.out.2)).mono ?_;rintro e w9 ⟨rfl,hS9,hg9⟩;have HS9:=hI_ hS9;clear l0 l1 hS9 hg9;go_wp2_with fail
   go_roundw
   case rel=>exact⟨k+1,a_,t_,by rw[HSN.out];exact HS9.out⟩
   case measure=>simp[intOf];omega
theorem qla.set{y y':Wd}{w0 w:World}{vF vL vA vN uF uL uA uN:Value}(h:qla y w0 w vF vL vA vN)(hs:WdS w y' uF uL uA uN):
 qla y' w0 ((((((w.setCell ⟨w0.heap.size,0,none⟩ (.int .i64 y'.sec)).setCell ⟨w0.heap.size,1,none⟩ (.int .i64 y'.bad)).setCell ⟨w0.heap.size,2,none⟩ uF).setCell ⟨w0.heap.size,3,none⟩ uL).setCell ⟨w0.heap.size,4,none⟩ uA).setCell ⟨w0.heap.size,5,none⟩ uN) uF uL uA uN:=
 ⟨qcU h.box _ _ _ _ _ _,(qcN a_ _ _ _ _ _ _).trans h.z,hs.set6 h.box _ _ _ _ _ _,qae h.b (nr_ _) _ _ _ _ _ _⟩
def quX(x:Wd)(es:List Ev):Wd:=es.foldl wdo x
def playTo(x:Wd)(es:List Ev)(k:Nat):Wd:=quX x (es.take k)
theorem quT{x:Wd}{es:List Ev}{k:Nat}(h:k<es.length):playTo x es (k+1)=wdo (playTo x es k) es[k]:=by
 unfold playTo quX;rw[qaZ h,List.foldl_append];rfl
theorem quU(x:Wd)(es:List Ev):playTo x es es.length=quX x es:=by unfold playTo;rw[List.take_length]
theorem WV.playTo{x:Wd}(h:WV x)(es:List Ev):∀ k,k≤es.length→WV (playTo x es k)
 |0,_=>h
 |k+1,hk=>by rw[quT hk];exact(WV.playTo h es k a_).do_ _
def quM(x:Wd)(es:List Ev):Bool:=qcc x&&decide (es.length≤80)
def quL(x:Wd)(es:List Ev):Wd:=if quM x es=true then quX x es else Wd.zero
def quR(w:World)(y:Wd)(ok:Bool)(e:Ending)(w':World):Prop:=
 ∃ uF uL uA uN,e=.returned (.tuple #[.agg #[.int .i64 y.sec,.int .i64 y.bad,uF,uL,uA,uN],.bool ok])∧WdS w' y uF uL uA uN∧bB w w'
theorem OwP.set6{B q:Nat}{w:World}{y:Wd}{vF vL vA vN:Value}{cur:Array Value}(h:OwP B w y vF vL vA vN)(hq:w.heap[q]? =some (.cells cur 28 (0,0)))(x0 x1 x2 x3 x4 x5:Value):
 OwP B ((((((w.setCell ⟨q,0,none⟩ x0).setCell ⟨q,1,none⟩ x1).setCell ⟨q,2,none⟩ x2).setCell ⟨q,3,none⟩ x3).setCell ⟨q,4,none⟩ x4).setCell ⟨q,5,none⟩ x5) y vF vL vA vN:=by
 obtain⟨C,h1,h2⟩:=h;exact⟨C,Nat.le_trans h1 (qae (bR_ 0 w) (Nat.zero_le q) x0 x1 x2 x3 x4 x5).size,h2.keep (qaA.set6 (T:=LT2) hq e_ _ _ _ _ _ _)⟩
def qvy(w:World)(y:Wd)(ok:Bool)(e:Ending)(w':World):Prop:=
 ∃ uF uL uA uN,e=.returned (.tuple #[.agg #[.int .i64 y.sec,.int .i64 y.bad,uF,uL,uA,uN],.bool ok])∧OwP w.heap.size w' y uF uL uA uN∧bB w w'
theorem qu1.put{g:Nat}{y y':Wd}{w0 w w':World}{vF vL vA vN uF uL uA uN:Value}(h:qu1 g y w0 w vF vL vA vN)(hb:bB w w')(hs:WdP w.heap.size w'.heap.size w' y' uF uL uA uN):
 qu1 g y' w0 ((((((w'.setCell ⟨g,0,none⟩ (.int .i64 y'.sec)).setCell ⟨g,1,none⟩ (.int .i64 y'.bad)).setCell ⟨g,2,none⟩ uF).setCell ⟨g,3,none⟩ uL).setCell ⟨g,4,none⟩ uA).setCell ⟨g,5,none⟩ uN) uF uL uA uN:=by
 have h':=h.below hb;have hg:=h.g;exact⟨qcU h'.b _ _ _ _ _ _,(qcN a_ _ _ _ _ _ _).trans h'.z,(OwP.set6 ⟨_,nr_ _,hs.mono h.o.size (nr_ _)⟩ h'.b _ _ _ _ _ _),qae h'.o a_ _ _ _ _ _ _,hg⟩
theorem qvE(x:Wd)(es:List Ev)(vF vL vA vN vE:Value)(w:World)(hx:WdR w x vF vL vA vN)(ht:∀ j (hj:j<x.net.length),x.net[j].txt.size≤maxLen)(hE:qu8 w vE es)(hte:∀ j (hj:j<es.length),es[j].txt.size≤maxLen)(he:qsC w):
 Calls Tryz.prog 20 #[.agg #[.int .i64 x.sec,.int .i64 x.bad,vF,vL,vA,vN],vE] w (qvy w (quL x es) (quM x es)):=by
 obtain⟨EA,Ec,rfl⟩:=hE.sl;have HEM:Hid (es.length≤maxLen):=hI_ (by obtain⟨F,h1,_⟩:=hE;exact h1.len);have hem:=HEM.out;unfold maxLen at hem;have HTE:=hI_ hte;have HER:=hI_ he;have HEW:=hI_ hE;have HLT:=hI_ he.lt;obtain⟨W0,HW0⟩:=nm_ ((w.alloc (.cells #[.int .i64 x.sec,.int .i64 x.bad,vF,vL,vA,vN] 28)).alloc (.cells #[.int .i64 0,.int .i64 0,.slice none 0 0,.slice none 0 0,.slice none 0 0,.slice none 0 0] 28));have HB0:Hid (bB w W0):=hI_ ai_;have hs0:w.heap.size+2=W0.heap.size:=by rw[←HW0.out];simp
 have HP0:Hid (W0.heap[w.heap.size]? =some (.cells #[.int .i64 x.sec,.int .i64 x.bad,vF,vL,vA,vN] 28 (0,0))):=hI_ M_;have HZ0:Hid (W0.heap[w.heap.size+1]? =some (.cells #[.int .i64 0,.int .i64 0,.slice none 0 0,.slice none 0 0,.slice none 0 0,.slice none 0 0] 28 (0,0))):=hI_ D_;have hl0:w.heap.size<W0.heap.size:=a_;have hl1:w.heap.size+1<W0.heap.size:=a_;have HX0:Hid (WdR W0 x vF vL vA vN):=hI_ (hx.below HB0.out);have HE0:=hI_ (hE.below HB0.out);have HT:=hI_ ht;clear hs0 hx ht he hte hE;have p0:=qaa HP0.out;obtain⟨bl,HBL⟩:=nm_ (decide (es.length≤80));have hbl:decide ((80:Int)<(es.length:Int))= !bl:=by
  rw[←HBL.out];by_cases h:es.length≤80
  · rw[decide_eq_true h];simp;omega
  · rw[decide_eq_false h];simp;omega
 go_enter Tryz.func20,Tryz.ntmps20
 go_upto_region 1 with fail
 rw[HW0.out];go_wp2_with fail
 refine(qfi x _ _ _ _ W0 HX0.out HT.out).mono ?_;rintro e w1 ⟨rfl,hb1⟩;clear p0;have HP1:=hI_ ((hb1.block _ hl0).trans HP0.out);have HZ1:=hI_ ((hb1.block _ hl1).trans HZ0.out);have hm1:=nL_ hl1 hb1.size;have HB1:=hI_ (HB0.out.trans (hb1.mono HB0.out.size));have HX1:=hI_ (HX0.out.below hb1);have HE1:=hI_ (HE0.out.below hb1);clear hb1;obtain⟨bv,HBV⟩:=nm_ (qcc x);rw[HBV.out];have HOK:Hid (quM x es=(bv&&bl)):=hI_ (by unfold quM;rw[HBV.out,HBL.out]);obtain⟨bo,HBO⟩:=nm_ ((bv&&bl));cases bo
 · obtain⟨y0,y1,y2,y3,y4,y5,yf⟩:=qaa HZ1.out;have HR:Hid (quL x es=Wd.zero∧quM x es=false):=hI_ (by rw[HBO.out] at HOK;unfold quL;rw[HOK.out];exact⟨rfl,rfl⟩);have HZP:=(WdP.zero (B:=w.heap.size) (C:=0) (w:=((((((w1.setCell ⟨w.heap.size+1,0,none⟩ (.int .i64 0)).setCell ⟨w.heap.size+1,1,none⟩ (.int .i64 0)).setCell ⟨w.heap.size+1,2,none⟩ (.slice none 0 0)).setCell ⟨w.heap.size+1,3,none⟩ (.slice none 0 0)).setCell ⟨w.heap.size+1,4,none⟩ (.slice none 0 0)).setCell ⟨w.heap.size+1,5,none⟩ (.slice none 0 0))))
   have HZP:=hI_ HZP;have HRET:Hid (qvy w (quL x es) (quM x es) (.returned (.tuple #[.agg #[.int .i64 0,.int .i64 0,.slice none 0 0,.slice none 0 0,.slice none 0 0,.slice none 0 0],.bool false])) ((((((w1.setCell ⟨w.heap.size+1,0,none⟩ (.int .i64 0)).setCell ⟨w.heap.size+1,1,none⟩ (.int .i64 0)).setCell ⟨w.heap.size+1,2,none⟩ (.slice none 0 0)).setCell ⟨w.heap.size+1,3,none⟩ (.slice none 0 0)).setCell ⟨w.heap.size+1,4,none⟩ (.slice none 0 0)).setCell ⟨w.heap.size+1,5,none⟩ (.slice none 0 0))):=hI_ (by
    rw[HR.out.1,HR.out.2];exact⟨_,_,_,_,rfl,⟨0,Nat.zero_le _,HZP.out⟩,qae HB1.out (Nat.le_succ _) _ _ _ _ _ _⟩)
   cases bv
   · go_wp2_with fail
     refine bodyPost_ret (v:=.tuple #[.agg #[.int .i64 0,.int .i64 0,.slice none 0 0,.slice none 0 0,.slice none 0 0,.slice none 0 0],.bool false]) b0_ rfl HRET.out
   · obtain rfl:bl=false:=by have:=HBO.out;simpa using this
     have hbl2:(80:Int)<(es.length:Int):=by simpa using hbl
     go_wp2_with fail
     refine bodyPost_ret (v:=.tuple #[.agg #[.int .i64 0,.int .i64 0,.slice none 0 0,.slice none 0 0,.slice none 0 0,.slice none 0 0],.bool false]) b0_ rfl HRET.out
 have hbo:=HBO.out;rw[Bool.and_eq_true] at hbo;obtain⟨rfl,rfl⟩:=hbo;have hbl2:¬ (80:Int)<(es.length:Int):=by simpa using hbl
 have HR:Hid (quL x es=quX x es∧quM x es=true):=hI_ (by unfold quL;rw[HOK.out];exact⟨rfl,rfl⟩);have HWV:Hid (WV x):=hI_ (qcq.1 HBV.out);have p0:=qaa HP1.out;clear hbl;go_wp2_with fail
 refine(qjf x _ _ _ _ w1 HX1.out (HWV.out.wi.sml a_)).mono ?_;rintro e w2 ⟨uF,uL,uA,uN,rfl,hp2,hb2⟩;have hs2:=hp2.st;obtain⟨⟨B1,d1,rfl⟩,⟨B2,d2,rfl⟩,⟨B3,d3,rfl⟩,⟨B4,d4,rfl⟩⟩:=hs2.sl;obtain⟨g,HG⟩:=nm_ w2.heap.size;obtain⟨W3,HW3⟩:=nm_ (w2.alloc (.cells #[.int .i64 x.sec,.int .i64 x.bad,.slice B1 x.feeds.length d1,.slice B2 x.links.length d2,.slice B3 x.asked.length d3,.slice B4 x.net.length d4] 28));have hb3:bB w1 W3:=by rw[←HW3.out];exact qab hb2 _
 have HI3:Hid (qu1 g x w W3 (.slice B1 x.feeds.length d1) (.slice B2 x.links.length d2) (.slice B3 x.asked.length d3) (.slice B4 x.net.length d4)):=hI_ ⟨by rw[←HW3.out,←HG.out];exact heap_alloc_new _ _,(hb3.block _ hm1).trans HZ1.out,by rw[←HW3.out];exact OwP.below ⟨_,nr_ _,hp2.mono HB1.out.size (nr_ _)⟩ (qab (bR_ _ _) _),HB1.out.trans (hb3.mono HB1.out.size),by have:=HG.out;have:=hb2.size;omega⟩;have HE3:=hI_ (HE1.out.below hb3);have HB13:=hI_ hb3;clear hp2 hs2 hb2 hb3 p0;go_upto_region 4 with fail
 rw[HW3.out,HG.out];go_wp2_with fail
 go_loopw [22] (fun i wr=>∃ (k:Nat) (uF uL uA uN:Value),k≤es.length∧i=.int .i64 k∧qu1 g (playTo x es k) w wr uF uL uA uN) (fun i _=>es.length-(intOf i).toNat)
 case atStart=>exact⟨0,_,_,_,_,Nat.zero_le _,rfl,HI3.out⟩
 case round=>
  obtain⟨k,uF,uL,uA,uN,hk,rfl,hI⟩:=hrel;obtain⟨wr1,rfl⟩:∃ W,W=wr:=⟨_,rfl⟩
  obtain⟨y,HY⟩:=nm_ (playTo x es k);have HYV:Hid (WV y):=hI_ (by rw[←HY.out];exact HWV.out.playTo es k hk);rw[HY.out] at hI;obtain⟨⟨C1,e1,rfl⟩,⟨C2,e2,rfl⟩,⟨C3,e3,rfl⟩,⟨C4,e4,rfl⟩⟩:=hI.s.sl;have HI:=hI_ hI;clear HI3 HE3 HB13;by_cases hlt:k<es.length
  case neg=>
   obtain rfl:k=es.length:=a_;have hki:¬ (es.length:Int)<(es.length:Int):=a_;have g0:=qaa hI.b;obtain⟨y0,y1,y2,y3,y4,y5,yf⟩:=qaa hI.z;have HYE:Hid (quL x es=y):=hI_ (by rw[HR.out.1,←HY.out,quU]);have HFIN:Hid (qvy w (quL x es) (quM x es) (.returned (.tuple #[.agg #[.int .i64 y.sec,.int .i64 y.bad,.slice C1 y.feeds.length e1,.slice C2 y.links.length e2,.slice C3 y.asked.length e3,.slice C4 y.net.length e4],.bool true])) ((((((wr1.setCell ⟨w.heap.size+1,0,none⟩ (.int .i64 y.sec)).setCell ⟨w.heap.size+1,1,none⟩ (.int .i64 y.bad)).setCell ⟨w.heap.size+1,2,none⟩ (.slice C1 y.feeds.length e1)).setCell ⟨w.heap.size+1,3,none⟩ (.slice C2 y.links.length e2)).setCell ⟨w.heap.size+1,4,none⟩ (.slice C3 y.asked.length e3)).setCell ⟨w.heap.size+1,5,none⟩ (.slice C4 y.net.length e4))):=hI_ (by
    rw[HYE.out,HR.out.2];exact⟨_,_,_,_,rfl,hI.p.set6 hI.z _ _ _ _ _ _,qae hI.o (Nat.le_succ _) _ _ _ _ _ _⟩)
   clear hI;go_wp2_with fail
   refine bodyPost_ret (v:=.tuple #[.agg #[.int .i64 y.sec,.int .i64 y.bad,.slice C1 y.feeds.length e1,.slice C2 y.links.length e2,.slice C3 y.asked.length e3,.slice C4 y.net.length e4],.bool true]) b0_ rfl HFIN.out
  have hki:(k:Int)<(es.length:Int):=a_;have hk0:(0:Int)≤(k:Int):=a_;obtain⟨bE,oE,rfl,hbE,x0,x1,x2,x3,x4⟩:=(HEW.out.below hI.o).at_ hlt;have HSN:=hI_ (quT (x:=x) hlt);rw[HY.out] at HSN;have HTK:=hI_ (HTE.out k hlt);obtain⟨⟨kd,ea,eb,ec,et⟩,HEV⟩:∃ e,Hid (es[k]=e):=⟨_,hI_ rfl⟩
  rw[HEV.out] at x0 x1 x2 x3 x4 HSN HTK;simp only at x0 x1 x2 x3 x4 HTK;have htm:et.size≤9223372036854775807:=by have:=HTK.out;unfold maxLen at this;omega
  obtain⟨W4,HW4⟩:=nm_ (wr1.alloc (.cells #[.int .i64 kd,.int .i64 ea,.int .i64 eb,.int .i64 ec,.string et] 30));have hb4:bB wr1 W4:=by rw[←HW4.out];exact qab (bR_ _ _) _
  have hev:W4.heap[wr1.heap.size]? =some (.cells #[.int .i64 kd,.int .i64 ea,.int .i64 eb,.int .i64 ec,.string et] 30 (0,0)):=by rw[←HW4.out];exact heap_alloc_new _ _
  have hI4:=hI.below hb4;have g0:=qaa hI4.b;have v0:=qrL hev;have HI4:=hI_ hI4;have HDO:=hI_ (qtD y ⟨kd,ea,eb,ec,et⟩ _ _ _ _ W4 hI4.s.r (fun j hj=>Nat.le_trans (HYV.out.wi.pcs j hj).2.2.1 s_) HTK.out (HER.out.next HLT.out hI4.o));rw[qr7 (qcq.2 HYV.out)] at HDO;obtain⟨y',HY'⟩:∃ y',Hid (wdo y ⟨kd,ea,eb,ec,et⟩=y'):=⟨_,hI_ rfl⟩
  rw[HY'.out] at HDO HSN;clear hI hI4 hev hb4;go_upto_region 7 with fail
  rw[HW4.out];clear x0 x1 x2 x3 x4;go_wp2_with fail
  refine HDO.out.mono ?_;rintro e w5 ⟨vF',vL',vA',vN',rfl,hp5,hb5⟩;have hs5:=hp5.st;obtain⟨⟨D1,f1,rfl⟩,⟨D2,f2,rfl⟩,⟨D3,f3,rfl⟩,⟨D4,f4,rfl⟩⟩:=hs5.sl;have HPUT:=hI_ (HI4.out.put hb5 hp5);clear g0 v0;have g0:=qaa (HI4.out.below hb5).b;clear hp5 hs5 hb5;go_wp2_with fail
  go_roundw
  case rel=>exact⟨k+1,_,_,_,_,a_,t_,by rw[HSN.out];exact HPUT.out⟩
  case measure=>simp[intOf];omega
theorem quP(x:Wd)(es:List Ev)(vF vL vA vN vE:Value)(w:World)(hx:WdR w x vF vL vA vN)(ht:∀ j (hj:j<x.net.length),x.net[j].txt.size≤maxLen)(hE:qu8 w vE es)(hte:∀ j (hj:j<es.length),es[j].txt.size≤maxLen)(he:qsC w):
 Calls Tryz.prog 20 #[.agg #[.int .i64 x.sec,.int .i64 x.bad,vF,vL,vA,vN],vE] w (quR w (quL x es) (quM x es)):=by
 refine(qvE x es vF vL vA vN vE w hx ht hE hte he).mono ?_;rintro e w' ⟨uF,uL,uA,uN,h1,h2,h3⟩;exact⟨uF,uL,uA,uN,h1,h2.st,h3⟩
theorem quQ(x:Wd)(es:List Ev)(vF vL vA vN vE:Value)(w:World)(hx:WdS w x vF vL vA vN)(ht:∀ j (hj:j<x.net.length),x.net[j].txt.size≤maxLen)(hE:qu8 w vE es)(hte:∀ j (hj:j<es.length),es[j].txt.size≤maxLen):
 Calls Tryz.prog 21 #[.agg #[.int .i64 x.sec,.int .i64 x.bad,vF,vL,vA,vN],vE] w (quR w (quL x es) (quM x es)):=by
 obtain⟨EA,Ec,rfl⟩:=hE.sl;obtain⟨⟨B1,d1,rfl⟩,⟨B2,d2,rfl⟩,⟨B3,d3,rfl⟩,⟨B4,d4,rfl⟩⟩:=hx.sl;have HEM:Hid (es.length≤maxLen):=hI_ (by obtain⟨F,h1,_⟩:=hE;exact h1.len);have hem:=HEM.out;unfold maxLen at hem;have HTE:=hI_ hte;have HEW:=hI_ hE;obtain⟨W0,HW0⟩:=nm_ ((w.alloc (.cells #[.int .i64 x.sec,.int .i64 x.bad,.slice B1 x.feeds.length d1,.slice B2 x.links.length d2,.slice B3 x.asked.length d3,.slice B4 x.net.length d4] 28)).alloc (.cells #[.int .i64 0,.int .i64 0,.slice none 0 0,.slice none 0 0,.slice none 0 0,.slice none 0 0] 28));have HB0:Hid (bB w W0):=hI_ ai_;have HS0:Hid (qla x w W0 (.slice B1 x.feeds.length d1) (.slice B2 x.links.length d2) (.slice B3 x.asked.length d3) (.slice B4 x.net.length d4)):=hI_ ⟨M_,D_,hx.below HB0.out,HB0.out⟩;have HT:=hI_ ht;clear hx ht hte hE;have p0:=qaa HS0.out.box;obtain⟨bl,HBL⟩:=nm_ (decide (es.length≤80));have hbl:decide ((80:Int)<(es.length:Int))= !bl:=by
  rw[←HBL.out];by_cases h:es.length≤80
  · rw[decide_eq_true h];simp;omega
  · rw[decide_eq_false h];simp;omega
 go_enter Tryz.func21,Tryz.ntmps21
 go_upto_region 1 with fail
 rw[HW0.out];go_wp2_with fail
 refine(qdO x _ _ _ _ W0 HS0.out.s.r HT.out).mono ?_;rintro e w1 ⟨rfl,hb1⟩;clear p0;have HS1:=hI_ (HS0.out.below hb1);clear hb1;obtain⟨bv,HBV⟩:=nm_ (qcc x);rw[HBV.out];have HOK:Hid (quM x es=(bv&&bl)):=hI_ (by unfold quM;rw[HBV.out,HBL.out]);obtain⟨bo,HBO⟩:=nm_ ((bv&&bl));cases bo
 · obtain⟨y0,y1,y2,y3,y4,y5,yf⟩:=qaa HS1.out.z;have HR:Hid (quL x es=Wd.zero∧quM x es=false):=hI_ (by rw[HBO.out] at HOK;unfold quL;rw[HOK.out];exact⟨rfl,rfl⟩);have HZP:=(WdP.zero (B:=0) (C:=0) (w:=((((((w1.setCell ⟨w.heap.size+1,0,none⟩ (.int .i64 0)).setCell ⟨w.heap.size+1,1,none⟩ (.int .i64 0)).setCell ⟨w.heap.size+1,2,none⟩ (.slice none 0 0)).setCell ⟨w.heap.size+1,3,none⟩ (.slice none 0 0)).setCell ⟨w.heap.size+1,4,none⟩ (.slice none 0 0)).setCell ⟨w.heap.size+1,5,none⟩ (.slice none 0 0)))).st;have HZP:=hI_ HZP;have HRET:Hid (quR w (quL x es) (quM x es) (.returned (.tuple #[.agg #[.int .i64 0,.int .i64 0,.slice none 0 0,.slice none 0 0,.slice none 0 0,.slice none 0 0],.bool false])) ((((((w1.setCell ⟨w.heap.size+1,0,none⟩ (.int .i64 0)).setCell ⟨w.heap.size+1,1,none⟩ (.int .i64 0)).setCell ⟨w.heap.size+1,2,none⟩ (.slice none 0 0)).setCell ⟨w.heap.size+1,3,none⟩ (.slice none 0 0)).setCell ⟨w.heap.size+1,4,none⟩ (.slice none 0 0)).setCell ⟨w.heap.size+1,5,none⟩ (.slice none 0 0))):=hI_ (by
    rw[HR.out.1,HR.out.2];exact⟨_,_,_,_,rfl,HZP.out,qae HS1.out.b (Nat.le_succ _) _ _ _ _ _ _⟩)
   cases bv
   · go_wp2_with fail
     refine bodyPost_ret (v:=.tuple #[.agg #[.int .i64 0,.int .i64 0,.slice none 0 0,.slice none 0 0,.slice none 0 0,.slice none 0 0],.bool false]) bZ_ rfl HRET.out
   · obtain rfl:bl=false:=by have:=HBO.out;simpa using this
     have hbl2:(80:Int)<(es.length:Int):=by simpa using hbl
     go_wp2_with fail
     refine bodyPost_ret (v:=.tuple #[.agg #[.int .i64 0,.int .i64 0,.slice none 0 0,.slice none 0 0,.slice none 0 0,.slice none 0 0],.bool false]) bZ_ rfl HRET.out
 have hbo:=HBO.out;rw[Bool.and_eq_true] at hbo;obtain⟨rfl,rfl⟩:=hbo;have hbl2:¬ (80:Int)<(es.length:Int):=by simpa using hbl
 have HR:Hid (quL x es=quX x es∧quM x es=true):=hI_ (by unfold quL;rw[HOK.out];exact⟨rfl,rfl⟩);have HWV:Hid (WV x):=hI_ (qcq.1 HBV.out);clear hbl;go_upto_region 3 with fail
 go_wp2_with fail
 go_loopw [6] (fun i wr=>∃ (k:Nat) (uF uL uA uN:Value),k≤es.length∧i=.int .i64 k∧qla (playTo x es k) w wr uF uL uA uN) (fun i _=>es.length-(intOf i).toNat)
 case atStart=>exact⟨0,_,_,_,_,Nat.zero_le _,rfl,HS1.out⟩
 case round=>
  obtain⟨k,uF,uL,uA,uN,hk,rfl,hI⟩:=hrel;obtain⟨wr1,rfl⟩:∃ W,W=wr:=⟨_,rfl⟩
  obtain⟨y,HY⟩:=nm_ (playTo x es k);have HYV:Hid (WV y):=hI_ (by rw[←HY.out];exact HWV.out.playTo es k hk);rw[HY.out] at hI;obtain⟨⟨C1,e1,rfl⟩,⟨C2,e2,rfl⟩,⟨C3,e3,rfl⟩,⟨C4,e4,rfl⟩⟩:=hI.s.sl;have HI:=hI_ hI;have HSM:=hI_ (HYV.out.wi.sml a_);obtain⟨g0,g1,g2,g3,g4,g5,gf⟩:=qaa hI.box;by_cases hlt:k<es.length
  case neg=>
   obtain rfl:k=es.length:=a_;have hki:¬ (es.length:Int)<(es.length:Int):=a_;have HYE:Hid (quL x es=y):=hI_ (by rw[HR.out.1,←HY.out,quU]);clear hI;go_wp2_with fail
   refine(qcO y _ _ _ _ wr1 HI.out.s HSM.out).mono ?_;rintro e w3 ⟨vF',vL',vA',vN',rfl,hc3,hb3⟩;have hs3:=hc3.s;obtain⟨⟨D1,f1,rfl⟩,⟨D2,f2,rfl⟩,⟨D3,f3,rfl⟩,⟨D4,f4,rfl⟩⟩:=hs3.sl;have hI3:=HI.out.below hb3;obtain⟨y0,y1,y2,y3,y4,y5,yf⟩:=qaa hI3.z;have HFIN:Hid (quR w (quL x es) (quM x es) (.returned (.tuple #[.agg #[.int .i64 y.sec,.int .i64 y.bad,.slice D1 y.feeds.length f1,.slice D2 y.links.length f2,.slice D3 y.asked.length f3,.slice D4 y.net.length f4],.bool true])) ((((((w3.setCell ⟨w.heap.size+1,0,none⟩ (.int .i64 y.sec)).setCell ⟨w.heap.size+1,1,none⟩ (.int .i64 y.bad)).setCell ⟨w.heap.size+1,2,none⟩ (.slice D1 y.feeds.length f1)).setCell ⟨w.heap.size+1,3,none⟩ (.slice D2 y.links.length f2)).setCell ⟨w.heap.size+1,4,none⟩ (.slice D3 y.asked.length f3)).setCell ⟨w.heap.size+1,5,none⟩ (.slice D4 y.net.length f4))):=hI_ (by
    rw[HYE.out,HR.out.2];exact⟨_,_,_,_,rfl,hs3.set6 hI3.z _ _ _ _ _ _,qae hI3.b (Nat.le_succ _) _ _ _ _ _ _⟩)
   clear hc3 hs3 hb3 hI3 g0 g1 g2 g3 g4 g5 gf;go_wp2_with fail
   refine bodyPost_ret (v:=.tuple #[.agg #[.int .i64 y.sec,.int .i64 y.bad,.slice D1 y.feeds.length f1,.slice D2 y.links.length f2,.slice D3 y.asked.length f3,.slice D4 y.net.length f4],.bool true]) bZ_ rfl HFIN.out
  have hki:(k:Int)<(es.length:Int):=a_;have hk0:(0:Int)≤(k:Int):=a_;obtain⟨bE,oE,rfl,hbE,x0,x1,x2,x3,x4⟩:=(HEW.out.below hI.b).at_ hlt;have HSN:=hI_ (quT (x:=x) hlt);rw[HY.out] at HSN;have HTK:=hI_ (HTE.out k hlt);obtain⟨⟨kd,ea,eb,ec,et⟩,HEV⟩:∃ e,Hid (es[k]=e):=⟨_,hI_ rfl⟩
  rw[HEV.out] at x0 x1 x2 x3 x4 HSN HTK;simp only at x0 x1 x2 x3 x4 HTK;have HI4:=hI_ (hI.below (qac (bR_ _ _)));have HDO:=hI_ (qnJ y ⟨kd,ea,eb,ec,et⟩ _ _ _ _ wr1.drew HI4.out.s HYV.out.wi a_ HTK.out);obtain⟨y',HY'⟩:∃ y',Hid (wdo y ⟨kd,ea,eb,ec,et⟩=y'):=⟨_,hI_ rfl⟩
  rw[HY'.out] at HDO HSN;clear hI;go_upto_region 6 with fail
  have hS0:wr1.drew.cell? ⟨w.heap.size,0,none⟩=some (.int .i64 y.sec)∧wr1.drew.cell? ⟨w.heap.size,1,none⟩=some (.int .i64 y.bad)∧wr1.drew.cell? ⟨w.heap.size,2,none⟩=some (.slice C1 y.feeds.length e1)∧wr1.drew.cell? ⟨w.heap.size,3,none⟩=some (.slice C2 y.links.length e2)∧wr1.drew.cell? ⟨w.heap.size,4,none⟩=some (.slice C3 y.asked.length e3)∧wr1.drew.cell? ⟨w.heap.size,5,none⟩=some (.slice C4 y.net.length e4)∧wr1.drew.cell? ⟨bE,oE+k*5,none⟩=some (.int .i64 kd)∧wr1.drew.cell? ⟨bE,oE+k*5+1,none⟩=some (.int .i64 ea)∧wr1.drew.cell? ⟨bE,oE+k*5+2,none⟩=some (.int .i64 eb)∧wr1.drew.cell? ⟨bE,oE+k*5+3,none⟩=some (.int .i64 ec)∧wr1.drew.cell? ⟨bE,oE+k*5+4,none⟩=some (.string et):=⟨g0,g1,g2,g3,g4,g5,x0,x1,x2,x3,x4⟩
  refine qrO (fun w'=>w'.cell? ⟨w.heap.size,0,none⟩=some (.int .i64 y.sec)∧w'.cell? ⟨w.heap.size,1,none⟩=some (.int .i64 y.bad)∧w'.cell? ⟨w.heap.size,2,none⟩=some (.slice C1 y.feeds.length e1)∧w'.cell? ⟨w.heap.size,3,none⟩=some (.slice C2 y.links.length e2)∧w'.cell? ⟨w.heap.size,4,none⟩=some (.slice C3 y.asked.length e3)∧w'.cell? ⟨w.heap.size,5,none⟩=some (.slice C4 y.net.length e4)∧w'.cell? ⟨bE,oE+k*5,none⟩=some (.int .i64 kd)∧w'.cell? ⟨bE,oE+k*5+1,none⟩=some (.int .i64 ea)∧w'.cell? ⟨bE,oE+k*5+2,none⟩=some (.int .i64 eb)∧w'.cell? ⟨bE,oE+k*5+3,none⟩=some (.int .i64 ec)∧w'.cell? ⟨bE,oE+k*5+4,none⟩=some (.string et)) (fun i=>decide (i<5)) d_ hS0 (fun hS hI=> ?_);clear g0 g1 g2 g3 g4 g5 gf x0 x1 x2 x3 x4 hS0;refine gU_ ?_ hI hS;clear hI;refine tU_ 0 ?_;refine tU_ 1 ?_;refine tU_ 2 ?_;refine tU_ 3 ?_;refine tU_ 4 ?_;refine eU_ fun hI=>?_;refine qrK (i:=5) hI rfl d_ rfl (fun K1 hK1=> ?_);go_simp;go_at_call 54
  refine HDO.out.mono ?_;rintro e w5 ⟨vF',vL',vA',vN',rfl,hs5,hb5⟩;obtain⟨⟨D1,f1,rfl⟩,⟨D2,f2,rfl⟩,⟨D3,f3,rfl⟩,⟨D4,f4,rfl⟩⟩:=hs5.sl;have hI5:=HI4.out.below hb5;obtain⟨g0,g1,g2,g3,g4,g5,gf⟩:=qaa hI5.box;obtain⟨W6,HW6⟩:=nm_ ((((((w5.setCell ⟨w.heap.size,0,none⟩ (.int .i64 y'.sec)).setCell ⟨w.heap.size,1,none⟩ (.int .i64 y'.bad)).setCell ⟨w.heap.size,2,none⟩ (.slice D1 y'.feeds.length f1)).setCell ⟨w.heap.size,3,none⟩ (.slice D2 y'.links.length f2)).setCell ⟨w.heap.size,4,none⟩ (.slice D3 y'.asked.length f3)).setCell ⟨w.heap.size,5,none⟩ (.slice D4 y'.net.length f4));have hput:=hI5.set hs5;rw[HW6.out] at hput;have HPUT:=hI_ hput;clear hput hI5 hs5 hb5;refine hK1.out _ _ (fun hI=> ?_);refine qrK (i:=6) hI rfl d_ rfl (fun K2 hK2=> ?_);go_simp;rw[HW6.out];refine hK2.out _ _ (fun hI=> ?_);refine qrM d_ ?_;go_wp2_with fail
  go_roundw
  case rel=>exact⟨k+1,_,_,_,_,a_,t_,by rw[HSN.out];exact HPUT.out⟩
  case measure=>simp[intOf];omega
def qnf(g P:Nat)(w:World)(e:Ending)(w':World):Prop:=∃ ev:Ev,e=.returned (.agg #[.int .i64 ev.kind,.int .i64 ev.a,.int .i64 ev.b,.int .i64 ev.c,.string ev.txt])∧ev.txt.size≤10∧Rdr w' g P∧qbb g w w'
section
variable {g P P' q y:Nat} {w w' w2:World} {x:Wd} {vF vL vA vN:Value}
theorem EvW.wd(h:EvW g P w x vF vL vA vN q w'):WdS w' x vF vL vA vN:=by obtain⟨P0,h0⟩:=h.hr;exact h.hx.keep (h.o.keep h0)
theorem EvW.alloc(h:EvW g P w x vF vL vA vN q w')(o:Obj):EvW g P w x vF vL vA vN q (w'.alloc o):=h.next (h.r.below (qab (bR_ _ _) o)) (qbb.of_below (qab (bR_ _ _) o))
end
section
variable {g P P' q y:Nat} {w w' w2:World} {x:Wd} {vF vL vA vN:Value}
theorem EvT.alloc(h:EvT g P w x vF vL vA vN q y w')(o:Obj):EvT g P w x vF vL vA vN q y (w'.alloc o):=h.next (h.s.r.below (qab (bR_ _ _) o)) (qbb.of_below (qab (bR_ _ _) o))
theorem EvT.setz(h:EvT g P w x vF vL vA vN q y w'){z:Nat}(hz:q+2≤z)(hzy:y≠z)(i:Nat)(u:Value):EvT g P w x vF vL vA vN q y (w'.setCell ⟨z,i,none⟩ u):=by
 obtain⟨kd,a,b,c,t,he,ht⟩:=h.e;exact⟨h.s.set hz i u,⟨kd,a,b,c,t,(Below.heap_setCell _ _ _ _ hzy).trans he,ht⟩,h.hy⟩
theorem EvT.set0(h:EvT g P w x vF vL vA vN q y w')(v:Int):EvT g P w x vF vL vA vN q y (w'.setCell ⟨y,0,none⟩ (.int .i64 v)):=
 ⟨h.s.set h.hy 0 _,by obtain⟨kd,a,b,c,t,he,ht⟩:=h.e;exact⟨v,a,b,c,t,qas (i:=0) he _,ht⟩,h.hy⟩
theorem EvT.set1(h:EvT g P w x vF vL vA vN q y w')(v:Int):EvT g P w x vF vL vA vN q y (w'.setCell ⟨y,1,none⟩ (.int .i64 v)):=
 ⟨h.s.set h.hy 1 _,by obtain⟨kd,a,b,c,t,he,ht⟩:=h.e;exact⟨kd,v,b,c,t,qas (i:=1) he _,ht⟩,h.hy⟩
theorem EvT.set2(h:EvT g P w x vF vL vA vN q y w')(v:Int):EvT g P w x vF vL vA vN q y (w'.setCell ⟨y,2,none⟩ (.int .i64 v)):=
 ⟨h.s.set h.hy 2 _,by obtain⟨kd,a,b,c,t,he,ht⟩:=h.e;exact⟨kd,a,v,c,t,qas (i:=2) he _,ht⟩,h.hy⟩
theorem EvT.set3(h:EvT g P w x vF vL vA vN q y w')(v:Int):EvT g P w x vF vL vA vN q y (w'.setCell ⟨y,3,none⟩ (.int .i64 v)):=
 ⟨h.s.set h.hy 3 _,by obtain⟨kd,a,b,c,t,he,ht⟩:=h.e;exact⟨kd,a,b,v,t,qas (i:=3) he _,ht⟩,h.hy⟩
theorem EvT.set4(h:EvT g P w x vF vL vA vN q y w'){u:ByteArray}(hu:u.size≤10):EvT g P w x vF vL vA vN q y (w'.setCell ⟨y,4,none⟩ (.string u)):=
 ⟨h.s.set h.hy 4 _,by obtain⟨kd,a,b,c,t,he,ht⟩:=h.e;exact⟨kd,a,b,c,u,qas (i:=4) he _,hu⟩,h.hy⟩
end
def qoD(n g P:Nat)(w:World)(x:Wd)(vF vL vA vN:Value)(q:Nat)(wx:World)(s6 s7:Value):Prop:=
 ∃ i j:Nat,s6=.int .i64 i∧s7=.int .i64 j∧i<n∧j<n∧EvW g P w x vF vL vA vN q wx
def EvC(n g P:Nat)(w:World)(x:Wd)(vF vL vA vN:Value)(q:Nat)(wx:World)(s28:Value):Prop:=
 ∃ b,s28=.bool b∧(b=true→0<n)∧EvW g P w x vF vL vA vN q wx
theorem qos{g P P' q y:Nat}{w w':World}{x:Wd}{vF vL vA vN:Value}(h:EvT g P w x vF vL vA vN q y w')(hP:P≤P')(kd a b c:Int)(t:ByteArray)(ht:t.size≤10):
 qnf g P' w (.returned (.agg #[.int .i64 kd,.int .i64 a,.int .i64 b,.int .i64 c,.string t])) (((((w'.setCell ⟨q+1,0,none⟩ (.int .i64 kd)).setCell ⟨q+1,1,none⟩ (.int .i64 a)).setCell ⟨q+1,2,none⟩ (.int .i64 b)).setCell ⟨q+1,3,none⟩ (.int .i64 c)).setCell ⟨q+1,4,none⟩ (.string t)):=by
 have hg:=h.s.hg;have hq:=h.s.hq;have hk:∀ (W:World) i u k,k≤g→(W.setCell ⟨q+1,i,none⟩ u).heap[k]? =W.heap[k]? :=fun W i u k hk=>Below.heap_setCell _ _ _ _ (by show k≠q+1;omega);refine⟨⟨kd,a,b,c,t⟩,rfl,ht,((((((h.s.r.mono hP).keep (hk _ _ _)).keep (hk _ _ _)).keep (hk _ _ _)).keep (hk _ _ _)).keep (hk _ _ _)),?_⟩;have hs:∀ i,w.heap.size≤(⟨q+1,i,none⟩:Addr).block:=fun i=>by show w.heap.size≤q+1;omega
 exact((((h.s.o.set (hs 0) _).set (hs 1) _).set (hs 2) _).set (hs 3) _).set (hs 4) _
theorem qh4{W:World}{A:Option Addr}{n c b o:Nat}{u:Value}{ls:List (List (Int×Int))}(h:Stb LT2 (fun w=>qdh w (.slice A n c) ls) W){j:Nat}(hj:j<ls.length)(hA:A=some ⟨b,o,none⟩)(hu:W.cell? ⟨b,o+j,none⟩=some u):
 ∀ w',qaA LT2 W w'→w'.cell? ⟨b,o+j,none⟩=some u∧RP w' u ls[j]:=by
 subst hA;have hkb:=qe5 hu (fun w' hk=>by
  obtain⟨b2,o2,x,hA2,_,hc,_⟩:=qdh.at_ (h w' hk) hj;cases hA2
  rw[hc];simp)
 intro w' hk;obtain⟨b2,o2,x,hA2,_,hc,hr⟩:=qdh.at_ (h w' hk) hj;cases hA2
 have e:=(World.cell?_of_block (hkb w' hk)).trans hu;rw[hc] at e;cases e
 exact⟨hc,hr⟩
theorem qlj{W:World}{a o z:Nat}{u:Value}(h:W.cell? ⟨a,o,none⟩=some u)(hz:a≠z)(x y:Value):((W.setCell ⟨z,0,none⟩ x).setCell ⟨z,1,none⟩ y).cell? ⟨a,o,none⟩=some u:=by
 have h1:((W.setCell ⟨z,0,none⟩ x).setCell ⟨z,1,none⟩ y).heap[a]? =W.heap[a]? :=(Below.heap_setCell _ ⟨z,1,none⟩ y a hz).trans (Below.heap_setCell W ⟨z,0,none⟩ x a hz);exact(World.cell?_of_block h1).trans h
theorem qgT{W:World}{A:Option Addr}{n c b o:Nat}{ls:List (Int×Int)}(h:Stb LT2 (fun w=>RP w (.slice A n c) ls) W)(hn:0<ls.length)(hA:A=some ⟨b,o,none⟩):∀ w',qaA LT2 W w'→∀ t,w'.cell? ⟨b,t,none⟩=W.cell? ⟨b,t,none⟩:=by
 subst hA;obtain⟨b2,o2,hA2,_,c0,_⟩:=R2.at_ h.self hn;cases hA2
 have hkb:=qe5 c0 (fun w' hk=>by
  obtain⟨b3,o3,hA3,_,d0,_⟩:=R2.at_ (h w' hk) hn;cases hA3
  rw[d0];simp)
 exact fun w' hk t=>World.cell?_of_block (hkb w' hk)
theorem qkp{W:World}{A:Option Addr}{n c:Nat}{ls:List (List (Int×Int))}{u:Value}{b o:Nat}(h:Stb LT2 (fun w=>qdh w (.slice A n c) ls) W){j:Nat}(hj:j<ls.length)(hA:A=some ⟨b,o,none⟩)(hu:W.cell? ⟨b,o+j,none⟩=some u)
 {B:Option Addr} {m d b2 o2:Nat} (hun:u=.slice B m d) (hB:B=some ⟨b2,o2,none⟩) (hl:0<ls[j].length):∀ w',qaA LT2 W w'→∀ t,w'.cell? ⟨b2,t,none⟩=W.cell? ⟨b2,t,none⟩:=by
 have hkp:=qh4 h hj hA hu;refine qgT (n:=m) (c:=d) (ls:=ls[j]) (fun w' hk=> ?_) hl hB;rw[←hun];exact(hkp w' hk).2
theorem qgF{W:World}{a z:Nat}(hz:a≠z)(x y:Value)(o:Nat):((W.setCell ⟨z,0,none⟩ x).setCell ⟨z,1,none⟩ y).cell? ⟨a,o,none⟩=W.cell? ⟨a,o,none⟩:=
 World.cell?_of_block ((Below.heap_setCell _ ⟨z,1,none⟩ y a hz).trans (Below.heap_setCell W ⟨z,0,none⟩ x a hz))
def EvL(n g P:Nat)(w:World)(x:Wd)(vF vL vA vN:Value)(q:Nat)(wx:World)(s8:Value):Prop:=
 ∃ (y i j:Nat),s8=.pointer (some ⟨y,0,none⟩)∧wx.heap[y]? =some (.cells #[.int .i64 (i:Int),.int .i64 (j:Int)] 99 (0,0))∧i<n∧j<n∧q+2≤y∧EvW g P w x vF vL vA vN q wx
def EvQ(g P:Nat)(w:World)(x:Wd)(vF vL vA vN:Value)(q y:Nat)(wx:World)(s10:Value):Prop:=
 ∃ (z:Nat) (c d:Int),s10=.pointer (some ⟨z,0,none⟩)∧wx.heap[z]? =some (.cells #[.int .i64 c,.int .i64 d] 109 (0,0))∧z≠y∧EvT g P w x vF vL vA vN q y wx
theorem qmP{n:Nat}{l:List (Int×Int)}(h:∀ j (hj:j<l.length),qc5 n l[j]=true){k:Nat}(hk:k<l.length):∃ i j:Nat,l[k]=((i:Int),(j:Int))∧i<n∧j<n:=by
 have h1:=h k hk;unfold qc5 at h1;rw[Bool.and_eq_true,qak,qak] at h1;exact⟨l[k].1.toNat,l[k].2.toNat,Prod.ext (by show l[k].1=_;omega) (by show l[k].2=_;omega),a_,a_⟩
theorem qiv{K:Nat}(g P:Nat)(x:Wd)(vF vL vA vN:Value)(w:World)(hr:Rdr w g P)(hP:P≤100000)(hx:WdS w x vF vL vA vN)(hw:WI K x)(hK:K≤1000000):
 Calls Tryz.prog 48 #[.pointer (some ⟨g,0,none⟩),.agg #[.int .i64 x.sec,.int .i64 x.bad,vF,vL,vA,vN]] w (qnf g (P+60) w):=by
 have HWI:=hI_ hw;have hgl:=hr.lt;have hl6:x.feeds.length≤6:=hw.n6;have hn1:1≤x.feeds.length:=hw.n1;have hka:x.asked.length=x.feeds.length:=hw.na;have hnl:=hw.nl;have hnn:=hw.net;clear hw;obtain⟨s,bd,fs,ls,ks,ps⟩:=x;simp only at hl6 hn1 hka hnl hnn;have HKA:Hid (ks.length=fs.length):=hI_ hka;have hka2:0<ks.length:=a_;have hka3:ks.length≤6:=a_;have hka4:fs.length≤ks.length:=a_;clear hka;obtain⟨fA,fc,rfl⟩:=hx.r.feeds.sl;obtain⟨lA,lc,rfl⟩:=hx.r.links.sl;obtain⟨aA,ac,rfl⟩:=hx.r.asked.sl;obtain⟨nA,nc,rfl⟩:=hx.r.net.sl;simp only at hx;obtain⟨b0,o0,yb,yh,hA,h_,hh_⟩:=hx.r.feeds.at_ (show 0<fs.length by omega);subst hA;clear h_ hh_;obtain⟨a0,p0,vk,hA,h_,hh_⟩:=hx.r.asked.at_ hka2;subst hA;clear h_ hh_;obtain⟨W0,HW0⟩:=nm_ ((w.alloc (.cells #[.int .i64 s,.int .i64 bd,.slice (some ⟨b0,o0,none⟩) fs.length fc,.slice lA ls.length lc,.slice (some ⟨a0,p0,none⟩) ks.length ac,.slice nA ps.length nc] 28)).alloc (.cells #[.int .i64 0,.int .i64 0,.int .i64 0,.int .i64 0,.string ⟨#[]⟩] 30));have hb0:bB w W0:=by rw[←HW0.out];exact qab (qab (bR_ _ _) _) _
 have hp0:W0.heap[w.heap.size]? =some (.cells #[.int .i64 s,.int .i64 bd,.slice (some ⟨b0,o0,none⟩) fs.length fc,.slice lA ls.length lc,.slice (some ⟨a0,p0,none⟩) ks.length ac,.slice nA ps.length nc] 28 (0,0)):=by rw[←HW0.out];exact qau (heap_alloc_new _ _)
 have hz0:W0.heap[w.heap.size+1]? =some (.cells #[.int .i64 0,.int .i64 0,.int .i64 0,.int .i64 0,.string ⟨#[]⟩] 30 (0,0)):=by rw[←HW0.out];exact qbu k_
 have hne:∀ k,w.heap.size≤k→some k≠some g:=fun k hk e=>by have:=Option.some.inj e;omega
 have HNE:=hI_ hne;have HLK:Hid (∀ k (hk:k<ls.length),∃ i j:Nat,ls[k]=((i:Int),(j:Int))∧i<fs.length∧j<fs.length):=hI_ (fun k hk=>qmP HWI.out.links hk);have HBD:Hid (∀ j (hj:j<fs.length),fs[j].hd.len≤16∧0≤fs[j].hd.len∧fs[j].hv.length≤16):=hI_ (fun j hj=>by
  obtain⟨n,h1,h2,h3,h4,h5⟩:=HWI.out.hd hj;simp only at h1 h2 h3 h4 h5;omega)
 have HAK:Hid (∀ j (hj:j<ks.length),ks[j].length≤1000000):=hI_ (fun j hj=>Nat.le_trans (HWI.out.ask j hj) hK);have hr0:=hr.below hb0;have hx0:=hx.below hb0;have ho0:qbb g w W0:=qbb.of_below hb0;have h0n:(1:Int)≤(fs.length:Int):=a_;have h0m:(fs.length:Int)≤1000000:=a_;obtain⟨t0,t1,t2,t3,t4,t5,tf⟩:=qaa hp0;have HXX:=hI_ hx;have HRR:=hI_ hr;clear hr hx hb0 hne;go_enter Tryz.func48,Tryz.ntmps48
 go_wp2_with fail
 rw[HW0.out];refine(qan g P fs.length W0 hr0 h0n h0m a_).mono ?_;rintro e w1 ⟨i,rfl,i1,i2,r1,o1⟩;obtain⟨i,rfl⟩:∃ n:Nat,i=n:=⟨i.toNat,a_⟩
 go_wp2_with fail
 refine(qan g (P+1) fs.length w1 r1 h0n h0m a_).mono ?_;rintro e w2 ⟨j,rfl,j1,j2,r2,o2⟩;obtain⟨j,rfl⟩:∃ n:Nat,j=n:=⟨j.toNat,a_⟩
 have o12:=o1.trans o2;have hp2:=(o12.block _ (qai hp0) (HNE.out _ (nr_ _))).trans hp0;have hz2:=(o12.block _ (qai hz0) (HNE.out _ (Nat.le_succ _))).trans hz0;have o02:=ho0.trans o12;clear t0 t1 t2 t3 t4 t5 tf o1 o2 o12 hp0 hz0 hx0 hr0 ho0 r1;have HW2:Hid (EvW g (P+2) w ⟨s,bd,fs,ls,ks,ps⟩ (.slice (some ⟨b0,o0,none⟩) fs.length fc) (.slice lA ls.length lc) (.slice (some ⟨a0,p0,none⟩) ks.length ac) (.slice nA ps.length nc) w.heap.size w2):=hI_ ⟨r2,o02,hp2,hz2,rfl,hgl,HXX.out,⟨P,HRR.out⟩⟩;clear hp2 hz2 o02;go_upto_region 4 with fail
 go_cut [28] (fun s28 wx=>EvC ls.length g (P+3) w ⟨s,bd,fs,ls,ks,ps⟩ (.slice (some ⟨b0,o0,none⟩) fs.length fc) (.slice lA ls.length lc) (.slice (some ⟨a0,p0,none⟩) ks.length ac) (.slice nA ps.length nc) w.heap.size wx s28)
 case first=>
  obtain⟨t0,t1,t2,t3,t4,t5,tf⟩:=qaa HW2.out.p;clear t0 t1 t2 t4 t5 tf;by_cases hl:ls.length=0
  · have hl':¬ (0:Int)<(ls.length:Int):=a_;have hl'':¬ 0<ls.length:=a_;clear hl;go_wp2_with fail
    go_meet;exact⟨_,rfl,(fun h=>aj_),HW2.out.mono a_⟩
  have hl':(0:Int)<(ls.length:Int):=a_;have hl'':0<ls.length:=a_;clear hl;go_wp2_with fail
  refine(qan g (P+2) 4 w2 r2 a_ a_ a_).mono ?_;rintro e w3 ⟨z,rfl,z1,z2,r3,o3⟩;have HW3:=hI_ (HW2.out.next r3 o3);have HLL:=hI_ hl'';clear r3 o3 t3;go_wp2_with fail
  go_meet;exact⟨_,rfl,fun _=>HLL.out,HW3.out⟩
 case rest=>
  obtain⟨cb,rfl,hcb,hW3⟩:=hcut;obtain⟨w3,rfl⟩:∃ W,W=wc:=⟨_,rfl⟩
  have HW3:=hI_ hW3;have HCB:=hI_ hcb;clear hcb hW3 r2 HW2;go_upto_if 28 with fail
  go_cut [6,7] (fun s6 s7 wx=>qoD fs.length g (P+5) w ⟨s,bd,fs,ls,ks,ps⟩ (.slice (some ⟨b0,o0,none⟩) fs.length fc) (.slice lA ls.length lc) (.slice (some ⟨a0,p0,none⟩) ks.length ac) (.slice nA ps.length nc) w.heap.size wx s6 s7)
  case first=>
   cases cb
   · go_wp2_with fail
     go_meet;exact⟨i,j,rfl,rfl,a_,a_,HW3.out.mono a_⟩
   have hl'':0<ls.length:=HCB.out rfl;obtain⟨bL,oL,hLA,hbL3,hg0,hg1⟩:=HW3.out.wd.r.links.at_ hl'';subst hLA;clear hg0 hg1;have HLK3:=hI_ (qgT HW3.out.wd.links hl'' rfl);have hlm:(ls.length:Int)≤1000000:=a_;have hl1:(1:Int)≤(ls.length:Int):=a_;have hl3:=qai HW3.out.p;have hl3z:=qai HW3.out.z;have hgw3:g<w3.heap.size:=HW3.out.r.lt;have hgq:w.heap.size≠g:=a_;have t3:=(qaa HW3.out.p).2.2.2.1;go_upto_region 5 with fail
   go_cut [8] (fun s8 wx=>EvL fs.length g (P+4) w ⟨s,bd,fs,ls,ks,ps⟩ (.slice (some ⟨b0,o0,none⟩) fs.length fc) (.slice (some ⟨bL,oL,none⟩) ls.length lc) (.slice (some ⟨a0,p0,none⟩) ks.length ac) (.slice nA ps.length nc) w.heap.size wx s8)
   case first=>
    go_region_held3 (fun w'=>w'.cell? ⟨w.heap.size,3,none⟩=some (.slice (some ⟨bL,oL,none⟩) ls.length lc)∧∀ t,w'.cell? ⟨bL,t,none⟩=w3.cell? ⟨bL,t,none⟩)
     (first|with_reducible exact⟨t3,fun _=>rfl⟩|with_reducible exact⟨n3,n3t⟩|(with_reducible refine⟨Eq.trans (Below.cell (B:=w3.heap.size) ?_ hl3) t3,fun t=>Below.cell (B:=w3.heap.size) ?_ hbL3⟩ <;> (with_reducible repeat(first|exact bR_ _ _|refine qab ?_ _|refine qac ?_));done)|(with_reducible refine⟨Eq.trans (Below.cell (B:=w4.heap.size) ?_ hl4) n3,fun t=>Eq.trans (Below.cell (B:=w4.heap.size) ?_ hbL4) (n3t t)⟩ <;> (with_reducible repeat(first|exact bR_ _ _|refine qab ?_ _|refine qac ?_));done)|(with_reducible exact⟨n3b,n3bt⟩))
     ((go_at_call 49;refine(qan g (P+3) ls.length _ (HW3.out.r.below i_) hl1 hlm a_).mono ?_;rintro e w4 ⟨k,rfl,k1,k2,r4,o4⟩
       obtain⟨k,rfl⟩:∃ n:Nat,k=n:=⟨k.toNat,a_⟩
       have o34:qbb g w3 w4:=(qbb.of_below i_).trans o4;have hW4:=HW3.out.next r4 o34;have hl4:=qai hW4.p;have n3:=(qaa hW4.p).2.2.2.1;obtain⟨li,lj,hlk,hli,hlj⟩:=HLK.out k a_;obtain⟨_,_,hLA,_,l0,l1⟩:=HW3.out.wd.r.links.at_ (show k<ls.length by omega);cases hLA
       have n3t:=HLK3.out w4 (o34.keep HW3.out.r);have hbL4:bL<w4.heap.size:=nL_ hbL3 o34.size;rw[hlk] at l0 l1;simp only at l0 l1;have hs4:=o34.size;have hHW4:=hI_ hW4;clear hW4;try(refine qmN (w4.heap[w3.heap.size]? =some (.cells #[.int .i64 0,.int .i64 0] 99 (0,0))) ?_ ?_;(focus ((refine(o4.block _ ?_ ?_).trans ?_);(simp);(exact HNE.out _ (Nat.le_of_lt hl3));(first|with_reducible exact at0 _ _|((with_reducible refine qbI ?_);with_reducible exact at0 _ _)|exact at0 _ _)));intro hy4;obtain⟨y0,y1,yf⟩:=qaH hy4;have n3b:=(qaa ((hHW4.out.set (y:=w3.heap.size) a_ 0 (.int .i64 (li:Int))).set (y:=w3.heap.size) a_ 1 (.int .i64 (lj:Int))).p).2.2.2.1;have n3bt:=fun t=>(qgF (W:=w4) (a:=bL) (z:=w3.heap.size) a_ (.int .i64 (li:Int)) (.int .i64 (lj:Int)) t).trans (n3t t))))
    all_goals
     go_wp2
     go_meet
    · exact⟨_,li,lj,rfl,heap_alloc_new _ _,hli,hlj,a_,hHW4.out.alloc _⟩
    · exact⟨_,li,lj,rfl,qas (i:=1) (qas (i:=0) hy4 _) _,hli,hlj,a_,(hHW4.out.set (y:=w3.heap.size) a_ 0 _).set (y:=w3.heap.size) a_ 1 _⟩
   case rest=>
    obtain⟨y,li,lj,rfl,hy,hli,hlj,hqy,hW5⟩:=hcut;obtain⟨w5,rfl⟩:∃ W,W=wc:=⟨_,rfl⟩
    have HW5:=hI_ hW5;have HY:=hI_ hy;obtain⟨y0,y1,yf⟩:=qaH hy;clear hy hW5 t3;go_wp2_with fail
    refine(qan g (P+4) 2 w5 HW5.out.r a_ a_ a_).mono ?_;rintro e w6 ⟨z,rfl,z1,z2,r6,o6⟩;have HW6:=hI_ (HW5.out.next r6 o6);obtain⟨x0,x1,xf⟩:=qaH ((o6.block _ (qai HY.out) (HW5.out.ne _ a_)).trans HY.out);clear r6 o6 y0 y1 yf;by_cases hz:z=0
    · subst hz;go_wp2_with fail
      go_meet;exact⟨lj,li,rfl,rfl,hlj,hli,HW6.out⟩
    · have hz':(z==0)=false:=by rw[beq_eq_false_iff_ne];exact hz
      clear hz;go_wp2_with fail
      go_meet;exact⟨li,lj,rfl,rfl,hli,hlj,HW6.out⟩
  case rest=>
   clear i1 i2 j1 j2 i j HCB HW3;obtain⟨i,j,rfl,rfl,hi,hj,hW7⟩:=hcut;obtain⟨w7,rfl⟩:∃ W,W=wc:=⟨_,rfl⟩
   have HW7:=hI_ hW7;obtain⟨t0,t1,t2,t3,t4,t5,tf⟩:=qaa hW7.p;obtain⟨_,_,yb7,yh7,hA,hb7,f0,f1,f2,f3,f4,f5,hF7⟩:=hW7.wd.r.feeds.at_ (show 0<fs.length by omega);cases hA;simp only[Nat.zero_mul,Nat.add_zero] at f0 f1 f2 f3 f4 f5;obtain⟨m0,HM0⟩:∃ m:Int,Hid (fs[0].hd.len=m):=⟨_,hI_ rfl⟩
   rw[HM0.out] at f1;have hm0:m0≤16∧0≤m0:=by rw[←HM0.out];exact⟨(HBD.out 0 a_).1,(HBD.out 0 a_).2.1⟩
   obtain⟨hm1,hm2⟩:=hm0;have h0i:(0:Int)<(fs.length:Int):=a_;clear hF7 f0 f2 f3 f4 f5 t0 t1 t3 t4 t5 tf hW7;go_upto_region 11 with fail
   go_cut [9] (fun s9 wx=>∃ y,s9=.pointer (some ⟨y,0,none⟩)∧EvT g (P+6) w ⟨s,bd,fs,ls,ks,ps⟩ (.slice (some ⟨b0,o0,none⟩) fs.length fc) (.slice lA ls.length lc) (.slice (some ⟨a0,p0,none⟩) ks.length ac) (.slice nA ps.length nc) w.heap.size y wx)
   case first=>
    have hc:m0<1∨1≤m0:=a_;go_wp2_with fail
    all_goals
     refine(qan g (P+5) _ w7 HW7.out.r a_ a_ a_).mono ?_;rintro e w8 ⟨z,rfl,z1,z2,r8,o8⟩;have HW8:=hI_ (HW7.out.next r8 o8);have hs8:=nL_ (qai HW7.out.z) o8.size;clear r8 o8 t2 f1;go_wp2_with fail
     go_meet;exact⟨_,rfl,HW8.out.alloc _,⟨_,_,_,_,_,heap_alloc_new _ _,e_⟩,a_⟩
   case rest=>
    obtain⟨y,rfl,hT⟩:=hcut;obtain⟨w9,rfl⟩:∃ W,W=wc:=⟨_,rfl⟩
    have HT:=hI_ hT;clear hT t2 f1;go_wp2_with fail
    refine(qan g (P+6) 16 w9 HT.out.s.r a_ a_ a_).mono ?_;rintro e w10 ⟨sw,rfl,sw1,sw2,r10,o10⟩;have HT10:=hI_ (HT.out.next r10 o10);clear r10 o10;go_upto_block 0 with fail
    go_cut [] (fun wx=>EvT g (P+30) w ⟨s,bd,fs,ls,ks,ps⟩ (.slice (some ⟨b0,o0,none⟩) fs.length fc) (.slice lA ls.length lc) (.slice (some ⟨a0,p0,none⟩) ks.length ac) (.slice nA ps.length nc) w.heap.size y wx)
    case first=>
     have hsw:sw=0∨sw=1∨sw=2∨sw=3∨sw=4∨sw=5∨sw=6∨sw=7∨sw=8∨sw=9∨sw=10∨sw=11∨sw=12∨sw=13∨sw=14∨sw=15:=a_;rcases hsw with rfl|rfl|rfl|rfl|rfl|rfl|rfl|rfl|rfl|rfl|rfl|rfl|rfl|rfl|rfl|rfl;iterate 2
      · as_aux_lemma=>
         obtain⟨kd_,ea_,eb_,ec_,et_,c0,c1,c2,c3,c4,cf,ct⟩:=HT10.out.cells;go_wp2_with fail
         refine(qc4 g (P+7) _ (HT10.out.set0 1).s.r a_).mono ?_;rintro e w11 ⟨st,rfl,hst,r11,o11⟩;have HT11:=hI_ ((HT10.out.set0 1).next r11 o11);have HST:=hI_ hst;clear c0 c1 c2 c3 c4 cf ct r11 o11 hst;obtain⟨kd_,ea_,eb_,ec_,et_,c0,c1,c2,c3,c4,cf,ct⟩:=HT11.out.cells;go_wp2_with fail
         go_meet;exact(HT11.out.set4 HST.out).mono a_
     iterate 2
      · as_aux_lemma=>
         obtain⟨kd_,ea_,eb_,ec_,et_,c0,c1,c2,c3,c4,cf,ct⟩:=HT10.out.cells;go_wp2_with fail
         refine(qan g (P+7) fs.length _ (HT10.out.set0 2).s.r h0n h0m a_).mono ?_;rintro e w11 ⟨w11v,rfl,w111,w112,w11r,w11o⟩;have HT11:=hI_ ((HT10.out.set0 2).next w11r w11o);clear w11r w11o;clear c0 c1 c2 c3 c4 cf ct;obtain⟨kd_,ea_,eb_,ec_,et_,c0,c1,c2,c3,c4,cf,ct⟩:=HT11.out.cells;go_wp2_with fail
         refine(qan g (P+7+1) fs.length _ (HT11.out.set1 w11v).s.r h0n h0m a_).mono ?_;rintro e w12 ⟨w12v,rfl,w121,w122,w12r,w12o⟩;have HT12:=hI_ ((HT11.out.set1 w11v).next w12r w12o);clear w12r w12o;clear c0 c1 c2 c3 c4 cf ct;obtain⟨kd_,ea_,eb_,ec_,et_,c0,c1,c2,c3,c4,cf,ct⟩:=HT12.out.cells;go_wp2_with fail
         go_meet;exact(HT12.out.set2 _).mono a_
     · as_aux_lemma=>
        obtain⟨kd_,ea_,eb_,ec_,et_,c0,c1,c2,c3,c4,cf,ct⟩:=HT10.out.cells;go_wp2_with fail
        go_meet;exact(HT10.out.set0 3).mono a_
     iterate 3
      · as_aux_lemma=>
         obtain⟨kd_,ea_,eb_,ec_,et_,c0,c1,c2,c3,c4,cf,ct⟩:=HT10.out.cells;go_wp2_with fail
         go_meet;exact(HT10.out.set0 4).mono a_
     iterate 3
      · as_aux_lemma=>
         obtain⟨kd_,ea_,eb_,ec_,et_,c0,c1,c2,c3,c4,cf,ct⟩:=HT10.out.cells;have HT11:=hI_ (HT10.out.set0 5);obtain⟨W11,HW11⟩:=nm_ (w10.setCell ⟨y,0,none⟩ (.int .i64 5));rw[HW11.out] at HT11;go_upto_region 32 with fail
         rw[HW11.out];clear c0 c1 c2 c3 c4 cf ct;obtain⟨t0,t1,t2,t3,t4,t5,tf⟩:=qaa HT11.out.s.p;obtain⟨_,_,ybj,yhj,hA,hbj,f0,f1,f2,f3,f4,f5,hFj⟩:=HT11.out.s.wd.r.feeds.at_ hj;cases hA;obtain⟨hvA,hvc,rfl⟩:=hFj.hv.sl';have hh16:=(HBD.out j hj).2.2;clear f0 f1 f2 f3 f4 hFj t0 t1 t3 t4 t5 tf;obtain⟨nh,HNH⟩:=nm_ (fs[j].hv.length);rw[HNH.out] at f5 hh16;obtain⟨kd_,ea_,eb_,ec_,et_,c0,c1,c2,c3,c4,cf,ct⟩:=HT11.out.cells;by_cases hnh:nh=0
         · have h1:¬ (0:Int)<(nh:Int):=a_;have h2:¬ 0<nh:=a_;clear hnh;go_wp2_with fail
           go_meet;exact HT11.out.mono a_
         have h1:(0:Int)<(nh:Int):=a_;have h2:0<nh:=a_;have h3:(1:Int)≤(nh:Int):=a_;have h4:(nh:Int)≤1000000:=a_;clear hnh;go_wp2_with fail
         refine(qan g (P+7) nh _ HT11.out.s.r h3 h4 a_).mono ?_;rintro e w12 ⟨w12v,rfl,w121,w122,w12r,w12o⟩;have HT12:=hI_ (HT11.out.next w12r w12o);clear w12r w12o;clear c0 c1 c2 c3 c4 cf ct t2 f5;obtain⟨kd_,ea_,eb_,ec_,et_,c0,c1,c2,c3,c4,cf,ct⟩:=HT12.out.cells;go_wp2_with fail
         go_meet;exact(HT12.out.set3 _).mono a_
     iterate 2
      · as_aux_lemma=>
         obtain⟨kd_,ea_,eb_,ec_,et_,c0,c1,c2,c3,c4,cf,ct⟩:=HT10.out.cells;go_wp2_with fail
         refine(qc4 g (P+7) _ (HT10.out.set0 6).s.r a_).mono ?_;rintro e w11 ⟨st,rfl,hst,r11,o11⟩;have HT11:=hI_ (((HT10.out.set0 6).next r11 o11).set4 hst);obtain⟨W11,HW11⟩:=nm_ (w11.setCell ⟨y,4,none⟩ (.string st));rw[HW11.out] at HT11;clear c0 c1 c2 c3 c4 cf ct;obtain⟨kd_,ea_,eb_,ec_,et_,c0,c1,c2,c3,c4,cf,ct⟩:=((HT10.out.set0 6).next r11 o11).cells;clear r11 o11 hst;go_upto_region 38 with fail
         rw[HW11.out];clear c0 c1 c2 c3 c4 cf ct;have hik:i<ks.length:=a_;have hik':(i:Int)<(ks.length:Int):=a_;have hi0':(0:Int)≤(i:Int):=a_;have t4:=(qaa HT11.out.s.p).2.2.2.2.1;obtain⟨_,_,vq,hA,hbq,ek,hRq⟩:=HT11.out.s.wd.r.asked.at_ hik;cases hA;obtain⟨qA,qc,rfl⟩:=hRq.sl;have hqm:=HAK.out i hik;obtain⟨lq,HLQ⟩:=nm_ (ks[i]);have HKP:=hI_ (qh4 HT11.out.s.wd.asked hik rfl ek);rw[HLQ.out] at ek hRq hqm HKP;have HRQ:=hI_ hRq;by_cases hnq:lq.length=0
         · have h1:¬ (0:Int)<(lq.length:Int):=a_;have h2:¬ 0<lq.length:=a_;clear hnq hRq;go_wp2_with fail
           go_meet;exact HT11.out.mono a_
         have h1:(0:Int)<(lq.length:Int):=a_;have h2:0<lq.length:=a_;have h3:(1:Int)≤(lq.length:Int):=a_;have h4:(lq.length:Int)≤1000000:=a_;obtain⟨bq,oq,hqA,hbq2,_,_⟩:=hRq.at_ h2;subst hqA;have HKT:=hI_ (qkp HT11.out.s.wd.asked hik rfl ek rfl rfl (by simp only;rw[HLQ.out];exact h2));clear hnq hRq;have hl11:=qai HT11.out.s.p;have hl11z:=qai HT11.out.s.z;go_upto_region 39 with fail
         go_cut [10] (fun s10 wx=>EvQ g (P+21) w ⟨s,bd,fs,ls,ks,ps⟩ (.slice (some ⟨b0,o0,none⟩) fs.length fc) (.slice lA ls.length lc) (.slice (some ⟨a0,p0,none⟩) ks.length ac) (.slice nA ps.length nc) w.heap.size y wx s10)
         case first=>
          go_region_held3 (fun w'=>w'.cell? ⟨w.heap.size,4,none⟩=some (.slice (some ⟨a0,p0,none⟩) ks.length ac)∧w'.cell? ⟨a0,p0+i,none⟩=some (.slice (some ⟨bq,oq,none⟩) lq.length qc)∧∀ t,w'.cell? ⟨bq,t,none⟩=W11.cell? ⟨bq,t,none⟩)
           (first|with_reducible exact⟨t4,ek,fun _=>rfl⟩|with_reducible exact⟨n4,nk,nkt⟩|(with_reducible refine⟨Eq.trans (Below.cell (B:=W11.heap.size) ?_ hl11) t4,Eq.trans (Below.cell (B:=W11.heap.size) ?_ hbq) ek,fun t=>Below.cell (B:=W11.heap.size) ?_ hbq2⟩ <;> (with_reducible repeat(first|exact bR_ _ _|refine qab ?_ _|refine qac ?_));done)|(with_reducible refine⟨Eq.trans (Below.cell (B:=w4.heap.size) ?_ hl4) n4,Eq.trans (Below.cell (B:=w4.heap.size) ?_ hb4) nk,fun t=>Eq.trans (Below.cell (B:=w4.heap.size) ?_ hbq4') (nkt t)⟩ <;> (with_reducible repeat(first|exact bR_ _ _|refine qab ?_ _|refine qac ?_));done)|(with_reducible exact n3b))
           ((go_at_call 49;refine(qan g (P+20) lq.length _ (HT11.out.s.r.below i_) h3 h4 a_).mono ?_;rintro e w4 ⟨k,rfl,k1,k2,r4,o4⟩
             obtain⟨k,rfl⟩:∃ n:Nat,k=n:=⟨k.toNat,a_⟩
             have o34:qbb g W11 w4:=(qbb.of_below i_).trans o4;have hT4:=HT11.out.next r4 o34;have hl4:=qai hT4.s.p;have n4:=(qaa hT4.s.p).2.2.2.2.1;obtain⟨nk,hR4⟩:=HKP.out w4 (o34.keep HT11.out.s.r);have hb4:a0<w4.heap.size:=nL_ hbq o34.size;have nkt:=HKT.out w4 (o34.keep HT11.out.s.r);have hbq4':bq<w4.heap.size:=nL_ hbq2 o34.size;obtain⟨_,_,hqA4,_,l0,l1⟩:=HRQ.out.at_ (show k<lq.length by omega);cases hqA4
             obtain⟨⟨pc,pd⟩,HPP⟩:∃ p,Hid (lq[k]'(by omega)=p):=⟨_,hI_ rfl⟩
             rw[HPP.out] at l0 l1;simp only at l0 l1;have hs4:=o34.size;have hHT4:=hI_ hT4;have hy11:=HT11.out.lt;clear hT4;try(refine qmN (w4.heap[W11.heap.size]? =some (.cells #[.int .i64 0,.int .i64 0] 109 (0,0))) ?_ ?_;(focus ((refine(o4.block _ ?_ ?_).trans ?_);(simp);(exact HNE.out _ (Nat.le_of_lt hl11));(first|with_reducible exact at0 _ _|((with_reducible refine qbI ?_);with_reducible exact at0 _ _)|exact at0 _ _)));intro hy4;obtain⟨y0,y1,yf⟩:=qaH hy4;have n3c:=(hHT4.out.setz (z:=W11.heap.size) a_ a_ 0 (.int .i64 pc)).setz (z:=W11.heap.size) a_ a_ 1 (.int .i64 pd);have n3e:=qlj nk (z:=W11.heap.size) a_ (.int .i64 pc) (.int .i64 pd);have n3b:=And.intro (qaa n3c.s.p).2.2.2.2.1 (And.intro n3e (fun t=>(qgF (W:=w4) (a:=bq) (z:=W11.heap.size) a_ (.int .i64 pc) (.int .i64 pd) t).trans (nkt t))))))
          all_goals
           go_wp2
           go_meet
          · exact⟨_,_,_,rfl,heap_alloc_new _ _,a_,hHT4.out.alloc _⟩
          · exact⟨_,_,_,rfl,qas (i:=1) (qas (i:=0) hy4 _) _,a_,n3c⟩
         case rest=>
          obtain⟨z,cz,dz,rfl,hz,hzy,hT5⟩:=hcut;obtain⟨w5,rfl⟩:∃ W,W=wc:=⟨_,rfl⟩
          obtain⟨z0,z1,zf⟩:=qaH hz;have HT5:=hI_ hT5;have hyz:y≠z:=fun e=>hzy e.symm;obtain⟨kd_,ea_,eb_,ec_,et_,c0,c1,c2,c3,c4,cf,ct⟩:=HT5.out.cells;clear hz hT5 t4 ek;go_wp2_with fail
          go_meet;exact((HT5.out.set2 _).set3 _).mono a_
     iterate 2
      · as_aux_lemma=>
         obtain⟨kd_,ea_,eb_,ec_,et_,c0,c1,c2,c3,c4,cf,ct⟩:=HT10.out.cells;obtain⟨t0,t1,t2,t3,t4,t5,tf⟩:=qaa HT10.out.s.p;clear t0 t1 t2 t3 t4 tf;have hc:(ps.length:Int)<1∨1≤(ps.length:Int):=a_;have HT11:=hI_ (HT10.out.set0 7);obtain⟨W11,HW11⟩:=nm_ (w10.setCell ⟨y,0,none⟩ (.int .i64 7));rw[HW11.out] at HT11;go_upto_region 45 with fail
         rw[HW11.out];clear c0 c1 c2 c3 c4 cf ct t5;obtain⟨t0,t1,t2,t3,t4,t5,tf⟩:=qaa HT11.out.s.p;clear t0 t1 t2 t3 t4 tf;go_wp2_with fail
         all_goals
          refine(qan g (P+7) _ _ HT11.out.s.r a_ a_ a_).mono ?_;rintro e w12 ⟨v12,rfl,v1,v2,r12,o12⟩;have HT12:=hI_ (HT11.out.next r12 o12);clear r12 o12 t5;obtain⟨kd_,ea_,eb_,ec_,et_,c0,c1,c2,c3,c4,cf,ct⟩:=HT12.out.cells;go_wp2_with fail
          go_meet;exact(HT12.out.set1 _).mono a_
     · as_aux_lemma=>
        obtain⟨kd_,ea_,eb_,ec_,et_,c0,c1,c2,c3,c4,cf,ct⟩:=HT10.out.cells;obtain⟨t0,t1,t2,t3,t4,t5,tf⟩:=qaa HT10.out.s.p;clear t0 t1 t2 t3 t4 tf;have hc:(ps.length:Int)<1∨1≤(ps.length:Int):=a_;have HT11:=hI_ (HT10.out.set0 8);obtain⟨W11,HW11⟩:=nm_ (w10.setCell ⟨y,0,none⟩ (.int .i64 8));rw[HW11.out] at HT11;go_upto_region 48 with fail
        rw[HW11.out];clear c0 c1 c2 c3 c4 cf ct t5;obtain⟨t0,t1,t2,t3,t4,t5,tf⟩:=qaa HT11.out.s.p;clear t0 t1 t2 t3 t4 tf;go_wp2_with fail
        all_goals
         refine(qan g (P+7) _ _ HT11.out.s.r a_ a_ a_).mono ?_;rintro e w12 ⟨v12,rfl,v1,v2,r12,o12⟩;have HT12:=hI_ (HT11.out.next r12 o12);clear r12 o12 t5;obtain⟨kd_,ea_,eb_,ec_,et_,c0,c1,c2,c3,c4,cf,ct⟩:=HT12.out.cells;go_wp2_with fail
         go_meet;exact(HT12.out.set1 _).mono a_
    case rest=>
     obtain⟨w11,rfl⟩:∃ W,W=wc:=⟨_,rfl⟩
     have HT11:=hI_ hcut;clear hcut;go_wp2_with fail
     refine(qan g (P+30) 40 w11 HT11.out.s.r a_ a_ a_).mono ?_;rintro e w12 ⟨sv,rfl,sv1,sv2,r12,o12⟩;have HT12:=hI_ (HT11.out.next r12 o12);clear r12 o12;go_upto_block 1 with fail
     go_cut [] (fun wx=>EvT g (P+40) w ⟨s,bd,fs,ls,ks,ps⟩ (.slice (some ⟨b0,o0,none⟩) fs.length fc) (.slice lA ls.length lc) (.slice (some ⟨a0,p0,none⟩) ks.length ac) (.slice nA ps.length nc) w.heap.size y wx)
     case first=>
      by_cases hsv:sv≠0∧sv≠1∧sv≠2∧sv≠3
      · obtain⟨q0,q1,q2,q3⟩:=hsv;have k0:(sv==0)=false:=by rw[beq_eq_false_iff_ne];exact q0
        have k1:(sv==1)=false:=by rw[beq_eq_false_iff_ne];exact q1
        have k2:(sv==2)=false:=by rw[beq_eq_false_iff_ne];exact q2
        have k3:(sv==3)=false:=by rw[beq_eq_false_iff_ne];exact q3
        clear q0 q1 q2 q3;go_wp2_with fail
        go_meet;exact HT12.out.mono a_
      have hs4:sv=0∨sv=1∨sv=2∨sv=3:=a_;clear hsv;rcases hs4 with rfl|rfl|rfl|rfl
      · as_aux_lemma=>
         go_wp2_with fail
         refine(qan g (P+31) 11 w12 HT12.out.s.r a_ a_ a_).mono ?_;rintro e w13 ⟨v13,rfl,v1,v2,r13,o13⟩;have HT13:=hI_ (HT12.out.next r13 o13);clear r13 o13;obtain⟨kd_,ea_,eb_,ec_,et_,c0,c1,c2,c3,c4,cf,ct⟩:=HT13.out.cells;go_wp2_with fail
         go_meet;exact(HT13.out.set0 _).mono a_
      · as_aux_lemma=>
         go_wp2_with fail
         refine(qan g (P+31) 14 w12 HT12.out.s.r a_ a_ a_).mono ?_;rintro e w13 ⟨v13,rfl,v1,v2,r13,o13⟩;have HT13:=hI_ (HT12.out.next r13 o13);clear r13 o13;obtain⟨kd_,ea_,eb_,ec_,et_,c0,c1,c2,c3,c4,cf,ct⟩:=HT13.out.cells;go_wp2_with fail
         go_meet;exact(HT13.out.set1 _).mono a_
      · as_aux_lemma=>
         go_wp2_with fail
         refine(qan g (P+31) 9 w12 HT12.out.s.r a_ a_ a_).mono ?_;rintro e w13 ⟨v13,rfl,v1,v2,r13,o13⟩;have HT13:=hI_ (HT12.out.next r13 o13);clear r13 o13;obtain⟨kd_,ea_,eb_,ec_,et_,c0,c1,c2,c3,c4,cf,ct⟩:=HT13.out.cells;go_wp2_with fail
         go_meet;exact(HT13.out.set2 _).mono a_
      · as_aux_lemma=>
         go_wp2_with fail
         refine(qan g (P+31) 18 w12 HT12.out.s.r a_ a_ a_).mono ?_;rintro e w13 ⟨v13,rfl,v1,v2,r13,o13⟩;have HT13:=hI_ (HT12.out.next r13 o13);clear r13 o13;obtain⟨kd_,ea_,eb_,ec_,et_,c0,c1,c2,c3,c4,cf,ct⟩:=HT13.out.cells;go_wp2_with fail
         go_meet;exact(HT13.out.set3 _).mono a_
     case rest=>
      obtain⟨w14,rfl⟩:∃ W,W=wc:=⟨_,rfl⟩
      have HT14:=hI_ hcut;clear hcut;obtain⟨kd_,ea_,eb_,ec_,et_,c0,c1,c2,c3,c4,cf,ct⟩:=HT14.out.cells;obtain⟨z0,z1,z2,z3,z4,zf⟩:=qck HT14.out.s.z;go_wp2_with fail
      refine bodyPost_ret (v:=.agg #[.int .i64 kd_,.int .i64 ea_,.int .i64 eb_,.int .i64 ec_,.string et_]) (by simp[results,Tryz.results48,go_sem,z0,z1,z2,z3,z4]) rfl (qos HT14.out a_ _ _ _ _ _ ct)
theorem qu7:(Tryz.prog.info? 30).map (fun i=>(i.zero,i.size,i.bytes))=some (some (.agg #[.int .i64 0,.int .i64 0,.int .i64 0,.int .i64 0,.string ⟨#[]⟩]),5,48):=by kernel_rfl
theorem qvg{o:Oper}{a:Act}{K:Act→World→Prop}{Q:Exit→Act→World→Prop}{w:World}{base:Nat}{v:Value}{es:List Ev}{e:Ev}(hown:qu3 base w v es)(hn:es.length+1≤100000000000)(hbase:base≤w.heap.size){s y:Operand}
 (ho:o.op=.call {callee:=.builtin .append,args:= #[s,y],argTypes:= #[37,37]}) (hs:a.eval s=v) {g:Nat} (hx:a.eval y=.slice (some ⟨g,0,none⟩) 1 1) (hg:g=w.heap.size)
 (h:∀ A c w',qu3 base w' (.slice A (es.length+1) c) (es++[e])→w.grownBy w' v.ownBlock→K (a.put o.dst (.slice A (es.length+1) c)) w'):
 Oper.wp Tryz.prog o a (w.alloc (.cells (evC e) 30)) K Q:=by
 subst hg;obtain⟨F,h1,h2⟩:=hown;obtain⟨i0,hi,hz0,hz1,hz2⟩:=info_parts qu7;have hba:bB w (w.alloc (.cells (evC e) 30)):=(bR_ _ _).alloc (nr_ _) _;have hone:∀ t,t<1*5→((evC e).toList.getD t (.slice none 0 0)).oneCell'=true:=by
  intro t ht;obtain rfl|rfl|rfl|rfl|rfl:t=0∨t=1∨t=2∨t=3∨t=4:=a_;all_goals rfl
 refine qcQ 37 30 5 48 i0 _ Tryz.underlying37 hi hz0 hz1 hz2 rfl a_ a_ (h1.below hba) (RN.box rfl) hone hn (Nat.le_trans hbase hba.size) ho hs hx fun A c w' h3 h4=> ?_;refine h A c w' ⟨_,A_,fun j hj=> ?_⟩ (qat (qaP hba) h4);by_cases hlt:j<es.length
 · rw[qaC a_,qaC a_,qaC a_,qaC a_,qaC a_,List.getElem_append_left hlt];exact h2 j hlt
 · obtain⟨rfl,he⟩:=qcx hj hlt;rw[qaD a_,qaD a_,qaD a_,qaD a_,qaD a_,he,Nat.sub_self,Nat.add_sub_cancel_left,Nat.add_sub_cancel_left,Nat.add_sub_cancel_left,Nat.add_sub_cancel_left];exact⟨rfl,rfl,rfl,rfl,rfl⟩
theorem qvb{es:List Ev}{e:Ev}(h:∀ j (hj:j<es.length),es[j].txt.size≤10)(he:e.txt.size≤10):∀ j (hj:j<(es++[e]).length),(es++[e])[j].txt.size≤10:=fun j hj=>by
 by_cases hlt:j<es.length
 · rw[List.getElem_append_left hlt];exact h j hlt
 · obtain⟨rfl,he'⟩:=qcx hj hlt;rw[he'];exact he
section
variable {g P P' q y5 y6 B:Nat} {w:World} {x0 x x':Wd} {a0 a1 a2 a3 uF uL uA uN tF tL tA tN:Value} {es es':List Ev} {vE vE':Value} {wr w2:World}
theorem PlW.put(h:PlW g P q y5 y6 B w x0 x a0 a1 a2 a3 uF uL uA uN es vE wr)(hb:bB wr w2)(hs:WdS w2 x' tF tL tA tN)(hd:DW x'):
 PlW g P q y5 y6 B w x0 x' a0 a1 a2 a3 tF tL tA tN es vE ((((((w2.setCell ⟨y6,0,none⟩ (.int .i64 x'.sec)).setCell ⟨y6,1,none⟩ (.int .i64 x'.bad)).setCell ⟨y6,2,none⟩ tF).setCell ⟨y6,3,none⟩ tL).setCell ⟨y6,4,none⟩ tA).setCell ⟨y6,5,none⟩ tN):=by
 have h':=h.below hb;have h1:=h.hq;have h2:=h.qg;have h3:=h.g5;have h4:=h.y56;exact⟨(qcN a_ _ _ _ _ _ _).trans h'.z,(qcN a_ _ _ _ _ _ _).trans h'.b5,qcU h'.b6 _ _ _ _ _ _,h'.s0.set6 h'.b6 _ _ _ _ _ _,hs.set6 h'.b6 _ _ _ _ _ _,h'.e.keepT (qaA.set6 (T:=[30]) h'.b6 e_ _ _ _ _ _ _) e_,qcw h'.r a_ _ _ _ _ _ _,qae h'.o a_ _ _ _ _ _ _,h.d0,hd,h.t,h1,h2,h3,h4,h.y6B⟩
theorem PlW.app(h:PlW g P q y5 y6 B w x0 x a0 a1 a2 a3 uF uL uA uN es vE wr)(hE:qu3 B w2 vE' es')(hg:wr.grownBy w2 vE.ownBlock)(ht:∀ j (hj:j<es'.length),es'[j].txt.size≤10):PlW g P q y5 y6 B w x0 x a0 a1 a2 a3 uF uL uA uN es' vE' w2:=by
 obtain⟨F,k1,_⟩:=h.e;have hk:qaA LT2 wr w2:=k1.grew hg e_;have h1:=h.hq;have h2:=h.qg;have h3:=h.g5;have h4:=h.y56;have h5:=h.y6B;have lo:∀ r,vE.ownBlock=some r→B≤r:=fun r hr=>(k1.lt r hr).1;have ne:∀ k,k<B→some k≠vE.ownBlock:=fun k hk e=>by have:=lo k e.symm;omega
 exact⟨(hg.block q (qai h.z) (ne _ a_)).trans h.z,(hg.block y5 (qai h.b5) (ne _ a_)).trans h.b5,(hg.block y6 (qai h.b6) (ne _ a_)).trans h.b6,h.s0.keep hk,h.s.keep hk,hE,h.r.grown hg (fun r hr=>by have:=lo r hr;omega),Below.grown h.o hg h.o.size (fun r hr=>by have:=lo r hr;omega),h.d0,h.d,ht,h1,h2,h3,h4,h5⟩
end
def qu4(w:World)(e:Ending)(w':World):Prop:=∃ x uF uL uA uN es vE,e=.returned (.tuple #[.agg #[.int .i64 x.sec,.int .i64 x.bad,uF,uL,uA,uN],vE])∧DW x∧WdS w' x uF uL uA uN∧qu8 w' vE es∧(∀ j (hj:j<es.length),es[j].txt.size≤10)∧es.length≤81∧bB w w'
theorem quK(bs:List UInt8)(v:Value)(w:World)(hv:RU w v bs):Calls Tryz.prog 19 #[v] w (qu4 w):=by
 obtain⟨q,HQQ⟩:=nm_ w.heap.size;obtain⟨W0,HW0⟩:=nm_ (w.alloc (.cells #[.int .i64 0,.int .i64 0,.slice none 0 0,.slice none 0 0,.slice none 0 0,.slice none 0 0] 28));have HB0:Hid (bB w W0):=hI_ (by rw[←HW0.out];exact qab (bR_ _ _) _);have hz0:W0.heap[q]? =some (.cells #[.int .i64 0,.int .i64 0,.slice none 0 0,.slice none 0 0,.slice none 0 0,.slice none 0 0] 28 (0,0)):=by rw[←HW0.out,←HQQ.out];exact heap_alloc_new w _
 have hs0:W0.heap.size=q+1:=by rw[←HW0.out,←HQQ.out];simp
 have HV:Hid (RU W0 v bs):=hI_ (hv.below HB0.out);obtain⟨A,c,rfl,_,_,_⟩:=hv;go_enter Tryz.func19,Tryz.ntmps19
 go_upto_region 1 with fail
 rw[HW0.out,HQQ.out];go_wp2_with fail
 refine(qkM bs _ W0 HV.out).mono ?_;rintro e w1 ⟨g,rfl,hg,r1,hb1⟩;have hg1:=r1.lt;go_wp2_with fail
 refine(qiu g 0 w1 r1 a_).mono ?_;rintro e w2 ⟨x,uF,uL,uA,uN,rfl,hd,hs,r2,o2⟩;obtain⟨⟨A1,c1,rfl⟩,⟨A2,c2,rfl⟩,⟨A3,c3,rfl⟩,⟨A4,c4,rfl⟩⟩:=hs.sl;have hb2:bB W0 w2:=hb1.trans (o2.below hg hg1);have hg2:=r2.lt;obtain⟨y5,HY5⟩:=nm_ w2.heap.size;obtain⟨W2,HW2⟩:=nm_ (w2.alloc (.cells #[.int .i64 x.sec,.int .i64 x.bad,.slice A1 x.feeds.length c1,.slice A2 x.links.length c2,.slice A3 x.asked.length c3,.slice A4 x.net.length c4] 28));have hbx2:W2.heap[y5]? =some (.cells #[.int .i64 x.sec,.int .i64 x.bad,.slice A1 x.feeds.length c1,.slice A2 x.links.length c2,.slice A3 x.asked.length c3,.slice A4 x.net.length c4] 28 (0,0)):=by rw[←HW2.out,←HY5.out];exact heap_alloc_new _ _
 have hb2':bB w2 W2:=by rw[←HW2.out];exact qab (bR_ _ _) _
 have hs2:W2.heap.size=y5+1:=by rw[←HW2.out,←HY5.out];simp
 obtain⟨b0,b1,b2,b3,b4,b5,bf⟩:=qaa hbx2;go_upto_region 3 with fail
 rw[HW2.out,HY5.out];obtain⟨W3,HW3⟩:=nm_ (W2.alloc (.cells #[.int .i64 x.sec,.int .i64 x.bad,.slice A1 x.feeds.length c1,.slice A2 x.links.length c2,.slice A3 x.asked.length c3,.slice A4 x.net.length c4] 28));have hbx3:W3.heap[y5+1]? =some (.cells #[.int .i64 x.sec,.int .i64 x.bad,.slice A1 x.feeds.length c1,.slice A2 x.links.length c2,.slice A3 x.asked.length c3,.slice A4 x.net.length c4] 28 (0,0)):=by rw[←HW3.out];exact qbu hs2.symm
 have hb3':bB W2 W3:=by rw[←HW3.out];exact qab (bR_ _ _) _
 have hs3:W3.heap.size=y5+2:=by rw[←HW3.out];simp;omega
 go_upto_region 4 with fail
 rw[HW3.out];try rw[hs2]
 clear b0 b1 b2 b3 b4 b5 bf;obtain⟨W4,HW4⟩:=nm_ (W3.alloc (.cells #[] 30));have hb34:bB W3 W4:=by rw[←HW4.out];exact qab (bR_ _ _) _
 have hb24:bB w2 W4:=hb2'.trans ((hb3'.trans (hb34.mono hb3'.size)).mono hb2'.size);have HW:Hid (PlW g 200 q y5 (y5+1) (y5+2) w x x (.slice A1 x.feeds.length c1) (.slice A2 x.links.length c2) (.slice A3 x.asked.length c3) (.slice A4 x.net.length c4) (.slice A1 x.feeds.length c1) (.slice A2 x.links.length c2) (.slice A3 x.asked.length c3) (.slice A4 x.net.length c4) [] (.slice (some ⟨y5+2,0,none⟩) 0 0) W4):=hI_ (by
  have hB:bB W0 W4:=hb2.trans (hb24.mono hb2.size);refine⟨(hB.block q a_).trans hz0,((hb3'.trans (hb34.mono hb3'.size)).block y5 a_).trans hbx2,(hb34.block (y5+1) a_).trans hbx3,hs.below hb24,hs.below hb24,⟨fun _=>.slice none 0 0,ON.empty (by rw[←HW4.out];exact qbu hs3.symm) (nr_ _),fun j hj=>absurd hj (Nat.not_lt_zero _)⟩,(r2.mono a_).below hb24,HB0.out.trans (hB.mono HB0.out.size),hd,hd,fun j hj=>absurd hj (Nat.not_lt_zero _),by have:=HQQ.out;omega,a_,by have:=HY5.out;omega,a_,a_⟩)
 clear hb34 hb24 hb3' hb2' hbx2 hbx3 hb2 hs r1 r2 o2 hd hb1 hz0 hg hg1 hg2 hs0;go_upto_region 5 with fail
 rw[HW4.out];try rw[hs3]
 go_wp2_with fail
 refine(qan g 200 70 W4 HW.out.r a_ a_ a_).mono ?_;rintro e w5 ⟨n,rfl,n1,n2,r5,o5⟩;have HW5:=hI_ (HW.out.only o5 r5);clear r5 o5;go_upto_if 21 with(go_at_call 49;refine(qan g 201 24 w5 HW5.out.r a_ a_ a_).mono ?_;rintro e w6 ⟨y,rfl,y1,y2,r6,o6⟩;have HW6:=hI_ (HW5.out.only o6 r6);clear r6 o6)
 go_cut [8] (fun s8 wx=>∃ n:Int,s8=.int .i64 n∧0≤n∧n≤81∧PlW g 203 q y5 (y5+1) (y5+2) w x x (.slice A1 x.feeds.length c1) (.slice A2 x.links.length c2) (.slice A3 x.asked.length c3) (.slice A4 x.net.length c4) (.slice A1 x.feeds.length c1) (.slice A2 x.links.length c2) (.slice A3 x.asked.length c3) (.slice A4 x.net.length c4) [] (.slice (some ⟨y5+2,0,none⟩) 0 0) wx)
 case first=>
  by_cases hy:y=0
  · subst hy;go_wp2_with fail
    refine(qan g 202 3 w6 HW6.out.r a_ a_ a_).mono ?_;rintro e w7 ⟨m,rfl,m1,m2,r7,o7⟩;have HW7:=hI_ (HW6.out.only o7 r7);have hm:IntKind.i64.wrap (79+m)=79+m:=IntWalk.i64_in _ a_;clear r7 o7;go_wp2_with fail
    go_meet;exact⟨79+m,by first|rfl|rw[hm]|(congr 1;go_num),a_,a_,HW7.out⟩
  · have hy':(y==0)=false:=by rw[beq_eq_false_iff_ne];exact hy
    go_wp2_with fail
    go_meet;exact⟨n,rfl,a_,a_,HW6.out.mono a_⟩
 case rest=>
  obtain⟨n,rfl,n1,n2,hW⟩:=hcut;obtain⟨w7,rfl⟩:∃ W,W=wc:=⟨_,rfl⟩
  clear HW HW5 HW6 HB0 HV;have HW:=hI_ hW;clear hW;go_wp2_with fail
  go_loopw [7,9] (fun vE i wr=>∃ (z:Wd) (tF tL tA tN:Value) (es:List Ev),i=.int .i64 es.length∧(es.length:Int)≤n∧PlW g (203+60*es.length) q y5 (y5+1) (y5+2) w x z (.slice A1 x.feeds.length c1) (.slice A2 x.links.length c2) (.slice A3 x.asked.length c3) (.slice A4 x.net.length c4) tF tL tA tN es vE wr) (fun _ i _=>(n-intOf i).toNat)
  case atStart=>exact⟨x,_,_,_,_,[],rfl,n_,HW.out⟩
  case round=>
   obtain⟨z,tF,tL,tA,tN,es,rfl,hik,hW⟩:=hrel;obtain⟨w8,rfl⟩:∃ W,W=wr:=⟨_,rfl⟩
   obtain⟨⟨B1,d1,rfl⟩,⟨B2,d2,rfl⟩,⟨B3,d3,rfl⟩,⟨B4,d4,rfl⟩⟩:=hW.s.sl;obtain⟨EA,ec0,rfl⟩:=hW.e.sl;clear HW;have HW:=hI_ hW;obtain⟨b0,b1,b2,b3,b4,b5,bf⟩:=qaa hW.b6;by_cases hlt:(es.length:Int)<n
   case neg=>
    obtain⟨s0,s1,s2,s3,s4,s5,sf⟩:=qaa hW.b5;obtain⟨q0,q1,q2,q3,q4,q5,qf⟩:=qaa hW.z;have HFIN:Hid (qu4 w (.returned (.tuple #[.agg #[.int .i64 x.sec,.int .i64 x.bad,.slice A1 x.feeds.length c1,.slice A2 x.links.length c2,.slice A3 x.asked.length c3,.slice A4 x.net.length c4],.slice EA es.length ec0])) ((((((w8.setCell ⟨q,0,none⟩ (.int .i64 x.sec)).setCell ⟨q,1,none⟩ (.int .i64 x.bad)).setCell ⟨q,2,none⟩ (.slice A1 x.feeds.length c1)).setCell ⟨q,3,none⟩ (.slice A2 x.links.length c2)).setCell ⟨q,4,none⟩ (.slice A3 x.asked.length c3)).setCell ⟨q,5,none⟩ (.slice A4 x.net.length c4))):=hI_
     ⟨x,_,_,_,_,es,_,rfl,hW.d0,hW.s0.set6 hW.z _ _ _ _ _ _,(hW.e.keepT (qaA.set6 (T:=[30]) hW.z e_ _ _ _ _ _ _) e_).r,hW.t,a_,qae hW.o hW.hq _ _ _ _ _ _⟩
    clear hW b0 b1 b2 b3 b4 b5 bf;go_wp2_with fail
    refine bodyPost_ret (v:=.tuple #[.agg #[.int .i64 x.sec,.int .i64 x.bad,.slice A1 x.feeds.length c1,.slice A2 x.links.length c2,.slice A3 x.asked.length c3,.slice A4 x.net.length c4],.slice EA es.length ec0]) (by simp[results,Tryz.results19,go_sem,q0,q1,q2,q3,q4,q5]) rfl HFIN.out
   have hn81:es.length≤81:=a_;clear hW;go_wp2_with fail
   refine(qiv g (203+60*es.length) z _ _ _ _ w8 HW.out.r a_ HW.out.s HW.out.d.v.wi a_).mono ?_;rintro e w9 ⟨⟨kd,ea,eb,ec,et⟩,rfl,ht,r9,o9⟩;simp only at ht;have hW9:=HW.out.only o9 r9;obtain⟨W9,HW9⟩:=nm_ (w9.alloc (.cells #[.int .i64 kd,.int .i64 ea,.int .i64 eb,.int .i64 ec,.string et] 30));have hb9:bB w9 W9:=by rw[←HW9.out];exact qab (bR_ _ _) _
   have hev9:W9.heap[w9.heap.size]? =some (.cells #[.int .i64 kd,.int .i64 ea,.int .i64 eb,.int .i64 ec,.string et] 30 (0,0)):=by rw[←HW9.out];exact heap_alloc_new _ _
   have HX9:=hI_ (hW9.below hb9);have HEV9:=hI_ hev9;have HT9:=hI_ ht;have HLE:Hid (∀ r,(Value.slice EA es.length ec0).ownBlock=some r→r<w9.heap.size):=hI_ (fun r hr=>by obtain⟨F,k1,_⟩:=hW9.e;exact(k1.lt r hr).2);clear r9 o9 hW9 hb9 hev9 ht b0 b1 b2 b3 b4 b5 bf;obtain⟨v0,v1,v2,v3,v4,vf⟩:=qrL HEV9.out;have lv9:=qai HEV9.out;go_upto_region 12 with fail
   rw[HW9.out]
   go_upto_region 13 with(at_builtin;refine qaF rfl fun K hK=>qvg (e:=⟨kd,ea,eb,ec,et⟩) HX9.out.e a_ (by have:=HX9.out.y6B;have:=qai HX9.out.b6;omega) rfl rfl rfl rfl (fun A' c' w10 hE10 hg10=>hK _ _ ?_)
                          have hE10':=hI_ hE10;have hg10':=hI_ hg10;clear hE10 hg10)
   have HX10:=hI_ (HX9.out.app hE10'.out hg10'.out (qvb HX9.out.t HT9.out));have hev10:=(hg10'.out.block w9.heap.size lv9 (fun e=>Nat.lt_irrefl _ (HLE.out _ e.symm))).trans HEV9.out;have HLN:Hid ((es++[(⟨kd,ea,eb,ec,et⟩:Ev)]).length=es.length+1):=hI_ k_;have HDO:=hI_ (qnJ z ⟨kd,ea,eb,ec,et⟩ _ _ _ _ w10 HX10.out.s HX10.out.d.v.wi a_ (Nat.le_trans HT9.out s_));obtain⟨z',HZ'⟩:∃ z',Hid (wdo z ⟨kd,ea,eb,ec,et⟩=z'):=⟨_,hI_ rfl⟩
   have HDZ:Hid (DW z'):=hI_ (by rw[←HZ'.out];exact HX10.out.d.do_ _);rw[HZ'.out] at HDO;clear v0 v1 v2 v3 v4 vf;obtain⟨v0,v1,v2,v3,v4,vf⟩:=qrL hev10;obtain⟨b0,b1,b2,b3,b4,b5,bf⟩:=qaa HX10.out.b6;clear hev10 hE10' hg10';go_wp2_with fail
   refine HDO.out.mono ?_;rintro e w11 ⟨vF',vL',vA',vN',rfl,hs11,hb11⟩;obtain⟨⟨C1,e1,rfl⟩,⟨C2,e2,rfl⟩,⟨C3,e3,rfl⟩,⟨C4,e4,rfl⟩⟩:=hs11.sl;have HPUT:=hI_ (HX10.out.put hb11 hs11 HDZ.out);clear b0 b1 b2 b3 b4 b5 bf v0 v1 v2 v3 v4 vf;obtain⟨b0,b1,b2,b3,b4,b5,bf⟩:=qaa (HX10.out.below hb11).b6;clear hs11 hb11;go_wp2_with fail
   go_roundw
   case rel=>exact⟨z',_,_,_,_,es++[⟨kd,ea,eb,ec,et⟩],by rw[HLN.out];go_num,by rw[HLN.out];omega,by rw[HLN.out];exact HPUT.out.mono a_⟩
   case measure=>simp[intOf];omega
end Go.Proofs.YtekaaekpdebloaaGreatDoor
namespace Go.Proofs.YtekaaekpdebloaaGreatDoor
open Go.RowKit

theorem qhE(l:List (Int×Int))(va vb:Value)(w:World)(ha:RP w va l)(hb:RP w vb l):
 gV 31 #[va,vb] w (.bool true):=by
 have HA:=hI_ ha;have HB:=hI_ hb;have hm:=ha.len;obtain⟨A,c,rfl⟩:=ha.sl;obtain⟨A2,c2,rfl⟩:=hb.sl;unfold maxLen at hm;clear ha hb;have hnn:((l.length:Int)!=(l.length:Int))=false:=k_;go_enter Tryz.func31,Tryz.ntmps31
 go_wp2
 go_loopw [5] (fun i wr=>∃ k:Nat,k≤l.length∧i=.int .i64 k∧bB w wr) (fun i _=>l.length-(intOf i).toNat)
 case atStart=>exact⟨0,Nat.zero_le _,rfl,bR_ _ _⟩
 case round=>
  obtain⟨k,hk,rfl,hbw⟩:=hrel;by_cases hlt:k<l.length
  · obtain⟨b,o,rfl,hbs,e0,e1⟩:=(HA.out.below hbw).at_ hlt;obtain⟨b',o',rfl,hbs',d0,d1⟩:=(HB.out.below hbw).at_ hlt;generalize l[k]=x at*
    have hup:=qap wr;have hki:(k:Int)<(l.length:Int):=a_;have hk0:(0:Int)≤(k:Int):=a_;go_wp2
    refine qoH ?_;repeat(go_big_quiet_step (fail))
    refine wq_ fun w1 hb1=>?_;clear hup;go_wp2
    go_roundw
    case rel=>exact⟨k+1,a_,t_,hbw.trans (hb1.mono hbw.size)⟩
    case measure=>simp[intOf];omega
  · go_wp2
    go_ret;exact⟨rfl,hbw⟩
theorem qn5{w w':World}{a b:Obj}(h:Below ((w.alloc a).alloc b).heap.size ((w.alloc a).alloc b) w'):bB w w':=(((bR_ _ _).alloc (nr_ _) a).alloc k_ b).trans (h.mono n_)
theorem qcK(x:Wd)(vF vL vA vN uF uL uA uN:Value)(w:World)(hv:WdR w x vF vL vA vN)(hu:WdR w x uF uL uA uN):
 gV 17 #[.agg #[.int .i64 x.sec,.int .i64 x.bad,vF,vL,vA,vN],.agg #[.int .i64 x.sec,.int .i64 x.bad,uF,uL,uA,uN]] w (.bool true):=by
 obtain⟨W2,HW2⟩:=nm_ ((w.alloc (.cells #[.int .i64 x.sec,.int .i64 x.bad,vF,vL,vA,vN] 28)).alloc (.cells #[.int .i64 x.sec,.int .i64 x.bad,uF,uL,uA,uN] 28));have hb2:bB w W2:=by rw[←HW2.out];exact((bR_ _ _).alloc (nr_ _) _).alloc k_ _
 have hp:W2.heap[w.heap.size]? =some (.cells #[.int .i64 x.sec,.int .i64 x.bad,vF,vL,vA,vN] 28 (0,0)):=by
  rw[←HW2.out,heap_alloc_old _ _ k_];exact heap_alloc_new w _
 have hq:W2.heap[w.heap.size+1]? =some (.cells #[.int .i64 x.sec,.int .i64 x.bad,uF,uL,uA,uN] 28 (0,0)):=by
  rw[←HW2.out];have:=heap_alloc_new (w.alloc (.cells #[.int .i64 x.sec,.int .i64 x.bad,vF,vL,vA,vN] 28)) (.cells #[.int .i64 x.sec,.int .i64 x.bad,uF,uL,uA,uN] 28);simpa using this
 have lp:=(Array.getElem?_eq_some_iff.1 hp).1;have lq:=(Array.getElem?_eq_some_iff.1 hq).1;have HV:=hI_ (hv.below hb2);have HU:=hI_ (hu.below hb2);have HB2:=hI_ hb2;obtain⟨FA,Fc,rfl⟩:=hv.feeds.sl;obtain⟨LA,Lc,rfl⟩:=hv.links.sl;obtain⟨AA,Ac,rfl⟩:=hv.asked.sl;obtain⟨NA,Nc,rfl⟩:=hv.net.sl;obtain⟨FB_,Fd_,rfl⟩:=hu.feeds.sl;obtain⟨LB_,Ld,rfl⟩:=hu.links.sl;obtain⟨AB,Ad,rfl⟩:=hu.asked.sl;obtain⟨NB,Nd,rfl⟩:=hu.net.sl;have hm1:=hv.feeds.len;have hm2:=hv.links.len;have hm3:=hv.asked.len;have hm4:=hv.net.len;unfold maxLen at hm1 hm2 hm3 hm4;have p0:=qaa hp;have q0:=qaa hq;have HP:=hI_ hp;have HQ:=hI_ hq;clear hp hq hv hu hb2;have hss:(x.sec !=x.sec)=false:=k_;have hbb:(x.bad !=x.bad)=false:=k_;have hn1:((x.feeds.length:Int)!=(x.feeds.length:Int))=false:=k_;have hn2:((x.links.length:Int)!=(x.links.length:Int))=false:=k_;have hn3:((x.asked.length:Int)!=(x.asked.length:Int))=false:=k_;have hn4:((x.net.length:Int)!=(x.net.length:Int))=false:=k_;go_enter Tryz.func17,Tryz.ntmps17
 go_wp2_with fail
 rw[HW2.out];go_wp2_with fail
 clear p0 q0;go_loopw [5] (fun i wr=>∃ k:Nat,k≤x.feeds.length∧i=.int .i64 k∧bB W2 wr) (fun i _=>x.feeds.length-(intOf i).toNat)
 case atStart=>exact⟨0,Nat.zero_le _,rfl,bR_ _ _⟩
 case round=>
  obtain⟨k,hk,rfl,hbw⟩:=hrel;obtain⟨wr1,rfl⟩:∃ W,W=wr:=⟨_,rfl⟩
  have HBW:=hI_ hbw;have lp':=nL_ lp hbw.size;have lq':=nL_ lq hbw.size;have p0:=qaa ((hbw.block _ lp).trans HP.out);have q0:=qaa ((hbw.block _ lq).trans HQ.out);by_cases hlt:k<x.feeds.length
  · have hki:(k:Int)<(x.feeds.length:Int):=a_;have hk0:(0:Int)≤(k:Int):=a_;obtain⟨b,o,xb,xh,hA,hbs,f0,f1,f2,f3,f4,f5,hF⟩:=(HV.out.feeds.below hbw).at_ hlt;subst hA;obtain⟨b',o',yb,yh,hA,hbs',g0,g1,g2,g3,g4,g5,hG⟩:=(HU.out.feeds.below hbw).at_ hlt;subst hA;have HF:=hI_ hF;have HG:=hI_ hG;clear hF hG;generalize x.feeds[k]=f at*
    clear hbw;have hup:=qap wr1;go_wp2_with fail
    refine qoH ?_;repeat(go_big_quiet_step ((go_at_call 29;exact qal (qeR f _ _ _ _ _ (HF.out.below (qao _ _)) (HG.out.below (qao _ _))))))
    refine wq_ fun w1 hb1=>?_;clear hup p0 q0;have HBX:=hI_ (HBW.out.trans (hb1.mono HBW.out.size));go_wp2_with fail
    go_roundw
    case rel=>exact⟨k+1,a_,t_,HBX.out⟩
    case measure=>simp[intOf];omega
  · have hki:¬ (k:Int)<(x.feeds.length:Int):=a_;clear hbw;go_wp2_with fail
    clear p0 q0;go_loopw [6] (fun i wr=>∃ k:Nat,k≤x.asked.length∧i=.int .i64 k∧bB W2 wr) (fun i _=>x.asked.length-(intOf i).toNat)
    case atStart=>exact⟨0,Nat.zero_le _,rfl,HBW.out⟩
    case round=>
     obtain⟨k,hk,rfl,hbw⟩:=hrel;obtain⟨wr2,rfl⟩:∃ W,W=wr:=⟨_,rfl⟩
     have HBW:=hI_ hbw;have lp':=nL_ lp hbw.size;have lq':=nL_ lq hbw.size;have p0:=qaa ((hbw.block _ lp).trans HP.out);have q0:=qaa ((hbw.block _ lq).trans HQ.out);by_cases hlt:k<x.asked.length
     · have hki:(k:Int)<(x.asked.length:Int):=a_;have hk0:(0:Int)≤(k:Int):=a_;obtain⟨b,o,y,hA,hbs,e0,e1⟩:=(HV.out.asked.below hbw).at_ hlt;subst hA;obtain⟨b',o',z,hA,hbs',d0,d1⟩:=(HU.out.asked.below hbw).at_ hlt;subst hA;have HF:=hI_ e1;have HG:=hI_ d1;clear e1 d1;generalize x.asked[k]=f at*
       clear hbw;have hup:=qap wr2;go_wp2_with fail
       refine qoH ?_;repeat(go_big_quiet_step ((go_at_call 31;exact qal (qhE f _ _ _ (HF.out.below (qao _ _)) (HG.out.below (qao _ _))))))
       refine wq_ fun w1 hb1=>?_;clear hup p0 q0;have HBX:=hI_ (HBW.out.trans (hb1.mono HBW.out.size));go_wp2_with fail
       go_roundw
       case rel=>exact⟨k+1,a_,t_,HBX.out⟩
       case measure=>simp[intOf];omega
     · have hki:¬ (k:Int)<(x.asked.length:Int):=a_;clear hbw;go_wp2_with fail
       clear p0 q0;go_loopw [7] (fun i wr=>∃ k:Nat,k≤x.links.length∧i=.int .i64 k∧bB W2 wr) (fun i _=>x.links.length-(intOf i).toNat)
       case atStart=>exact⟨0,Nat.zero_le _,rfl,HBW.out⟩
       case round=>
        obtain⟨k,hk,rfl,hbw⟩:=hrel;obtain⟨wr3,rfl⟩:∃ W,W=wr:=⟨_,rfl⟩
        have HBW:=hI_ hbw;have lp':=nL_ lp hbw.size;have lq':=nL_ lq hbw.size;have p0:=qaa ((hbw.block _ lp).trans HP.out);have q0:=qaa ((hbw.block _ lq).trans HQ.out);by_cases hlt:k<x.links.length
        · have hki:(k:Int)<(x.links.length:Int):=a_;have hk0:(0:Int)≤(k:Int):=a_;obtain⟨b,o,hA,hbs,e0,e1⟩:=(HV.out.links.below hbw).at_ hlt;subst hA;obtain⟨b',o',hA,hbs',d0,d1⟩:=(HU.out.links.below hbw).at_ hlt;subst hA;generalize x.links[k]=y at*
          clear hbw;have hup:=qap wr3;go_wp2_with fail
          refine qoH ?_;repeat(go_big_quiet_step (fail))
          refine wq_ fun w1 hb1=>?_;clear hup p0 q0;have HBX:=hI_ (HBW.out.trans (hb1.mono HBW.out.size));go_wp2_with fail
          go_roundw
          case rel=>exact⟨k+1,a_,t_,HBX.out⟩
          case measure=>simp[intOf];omega
        · have hki:¬ (k:Int)<(x.links.length:Int):=a_;clear hbw;go_wp2_with fail
          clear p0 q0;go_loopw [8] (fun i wr=>∃ k:Nat,k≤x.net.length∧i=.int .i64 k∧bB W2 wr) (fun i _=>x.net.length-(intOf i).toNat)
          case atStart=>exact⟨0,Nat.zero_le _,rfl,HBW.out⟩
          case round=>
           obtain⟨k,hk,rfl,hbw⟩:=hrel;obtain⟨wr4,rfl⟩:∃ W,W=wr:=⟨_,rfl⟩
           have HBW:=hI_ hbw;have lp':=nL_ lp hbw.size;have lq':=nL_ lq hbw.size;have p0:=qaa ((hbw.block _ lp).trans HP.out);have q0:=qaa ((hbw.block _ lq).trans HQ.out);by_cases hlt:k<x.net.length
           · have hki:(k:Int)<(x.net.length:Int):=a_;have hk0:(0:Int)≤(k:Int):=a_;obtain⟨b,o,y,hA,hbs,e0,e1,e2,e3,e4,e5,hF⟩:=(HV.out.net.below hbw).at_ hlt;subst hA;obtain⟨b',o',z,hA,hbs',d0,d1,d2,d3,d4,d5,hG⟩:=(HU.out.net.below hbw).at_ hlt;subst hA;have HF:=hI_ hF;have HG:=hI_ hG;clear hF hG;generalize x.net[k]=f at*
             obtain⟨yA,yc,rfl⟩:=R1.sl' HF.out;obtain⟨zA,zc,rfl⟩:=R1.sl' HG.out;clear hbw;go_wp2_with (go_at_call 26;refine(qhF f.prf _ _ _ ((HF.out.alloc _).alloc _) ((HG.out.alloc _).alloc _)).mono ?_;rintro e w1 ⟨rfl,hb1⟩;have HBX:=hI_ (HBW.out.trans ((qn5 hb1).mono HBW.out.size)))
             go_roundw
             case rel=>exact⟨k+1,a_,t_,HBX.out⟩
             case measure=>simp[intOf];omega
           · have hki:¬ (k:Int)<(x.net.length:Int):=a_;clear hbw;go_wp2_with fail
             clear p0 q0;go_ret;exact⟨rfl,HB2.out.trans (HBW.out.mono HB2.out.size)⟩
end Go.Proofs.YtekaaekpdebloaaGreatDoor

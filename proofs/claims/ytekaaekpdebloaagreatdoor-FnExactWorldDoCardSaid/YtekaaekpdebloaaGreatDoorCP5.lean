/- Words and walks of the law. -/
import Derived.Test.YtekaaekpdebloaaGreatDoorCO5
set_option linter.unusedVariables false
set_option linter.unusedSimpArgs false
set_option maxHeartbeats 12800000
set_option maxRecDepth 100000
namespace Go.Proofs.YtekaaekpdebloaaGreatDoor
open Go.RowKit Go.Shelf
attribute [local go_sem ↓] Go.wp_at_zero Go.wp_at_succ

def qsC(w:World):Prop:=w.cell? ⟨0,0,none⟩=some (.iface 276 (.agg #[.pointer (some ⟨1,217,none⟩)]))
theorem qsC.lt{w:World}(h:qsC w):0<w.heap.size:=by
 rcases Nat.eq_zero_or_pos w.heap.size with h0|h1
 · unfold qsC at h;simp[World.cell?,h0] at h
 · exact h1
theorem qsC.next{B:Nat}{w w':World}(h:qsC w)(hB:1≤B)(hb:Below B w w'):qsC w':=(hb.cell (p:=⟨0,0,none⟩) (by show 0<B;omega)).trans h
theorem qrH.next{B q o:Nat}{y z:Wd}{w w3 w4:World}{e e':Ending}(h:qrH B q o w y e w3)(hp:qrH B q o w3 z e' w4):qrH B q o w z e' w4:=by
 obtain⟨_,a,b,c,d,h1,h2,h3⟩:=h;obtain⟨rfl,a',b',c',d',h4,h5,h6⟩:=hp;exact⟨rfl,a',b',c',d',h4,h2.trans h5,fun i hi=>(h6 i hi).trans (h3 i hi)⟩
theorem qrH.pre2{B q o:Nat}{y:Wd}{w w1 w':World}{e:Ending}(hp:qrH B q o w1 y e w')(hb:Below B w w1)(hc:∀ i,i<o→w1.cell? ⟨q,i,none⟩=w.cell? ⟨q,i,none⟩):qrH B q o w y e w':=by
 obtain⟨rfl,a,b,c,d,h1,h2,h3⟩:=hp;exact⟨rfl,a,b,c,d,h1,hb.trans h2,fun i hi=>(h3 i hi).trans (hc i hi)⟩
theorem qa7.lt'{B C:Nat}{w:World}{v:Value}{fs:List Fd}(h:qa7 B C w v fs):∀ k,v.ownBlock=some k→B≤k∧k<w.heap.size:=by obtain⟨_,F,h1,_⟩:=h;exact h1.lt
theorem qav.sl3{B:Nat}{e:TypeId}{w:World}{v:Value}{l:List (Int×Int)}(h:qav B e w v l):∃ A n c,v=Value.slice A n c:=by obtain⟨A,c,h⟩:=h.r.sl;exact⟨A,_,c,h⟩
theorem qtG{w:World}{p:Nat}{t:TypeId}{x0:Value}(h:w.heap[p]? =some (.cells #[x0] t (0,0))):w.cell? ⟨p,0,none⟩=some x0∧w.frozen? ⟨p,0,none⟩=false:=⟨cell_of_row _ _ 0 _ _ _ h,am_⟩
theorem qtA{x:Wd}{p:Pc}(h:qc8 (x.asks p.to_) (p.fr,p.idx)=false∨(x.feed p.to_).hd.len≠p.len):qd2 x p=x:=by
 unfold qd2;rw[if_pos (by rcases h with h|h <;> simp[h])]
theorem qs9{x:Wd}{p:Pc}(h:qc8 (x.asks p.to_) (p.fr,p.idx)=true)(h2:(x.feed p.to_).hd.len=p.len):qd2 x p=
 if (qes (x.feed p.to_) p.idx p.txt p.prf).2 then {x with feeds:=x.feeds.set p.to_.toNat (qes (x.feed p.to_) p.idx p.txt p.prf).1,asked:=x.asked.set p.to_.toNat (qhJ (x.asks p.to_) (p.fr,p.idx))}
 else {x with asked:=x.asked.set p.to_.toNat (qeg (x.asks p.to_) p.fr)}:=by
 unfold qd2;rw[if_neg (by simp[h,h2])]
theorem qtL(x:Wd)(fr ln ix:Int)(tx:ByteArray)(pr:List Int)(vp:Value)(j q o B:Nat)(vF vL vA vN:Value)(w:World)(h:MI B q o x w vF vL vA vN)(hv:WV x)(hj:j<x.feeds.length)(ht:tx.size≤maxLen)(hp:RI w vp pr)(he:qsC w)(h1B:1≤B):
 Calls Tryz.prog 115 #[.pointer (some ⟨q,o,none⟩),.agg #[.int .i64 fr,.int .i64 (j:Int),.int .i64 ln,.int .i64 ix,.string tx,vp]] w (qrH B q o w (qd2 x ⟨fr,j,ln,ix,tx,pr⟩)):=by
 obtain⟨g,cF,rfl,hB,hgl,hqg,cur,hh⟩:=h.form a_;obtain⟨pA,pc,rfl⟩:=hp.sl';have hn6:x.feeds.length≤6:=hv.wi.n6;have hka:j<x.asked.length:=by have:=hv.na;omega
 obtain⟨bK,vAc,rfl⟩:∃ g c,vA=.slice (some ⟨g,0,none⟩) x.asked.length c:=by
  obtain⟨_,F,h1,_⟩:=h.p.A;obtain⟨g,c,h2,_⟩:=h1.form a_;exact⟨g,c,h2⟩
 have HM:=hI_ h;have HER:=hI_ he;have HB1:=hI_ h1B;have HPR:=hI_ hp;have HTS:=hI_ ht;have hj':(j:Int)<(x.feeds.length:Int):=a_;have hj0:(0:Int)≤(j:Int):=a_;have hka':(j:Int)<(x.asked.length:Int):=a_;obtain⟨_,_,jb,jh,hA,_,g0,g1,g2,g3,g4,g5,hFj⟩:=h.p.F.r.at_ hj;cases hA;rw[Nat.zero_add] at g1;obtain⟨_,oK,vk,hA,hab,ek,hRK⟩:=h.p.A.r.at_ hka;cases hA;rw[Nat.zero_add] at ek;have HFD:Hid (x.feed j=x.feeds[j]):=hI_ (hv.wi.fd hj);have HAS:Hid (x.asks j=x.asked[j]):=hI_ (hv.wi.as_ hj);have HKL:Hid (x.asked[j].length≤1000000):=hI_ (by have:=(qbt.1 (hv.wd j hka)).len;omega);obtain⟨lk,HLK⟩:=nm_ (x.asked[j]);obtain⟨jl,HJL⟩:=nm_ (x.feeds[j].hd.len);rw[HLK.out] at hRK HAS HKL;rw[HJL.out] at g1;obtain⟨w1,HW1⟩:=nm_ (w.alloc (.cells #[.int .i64 fr,.int .i64 (j:Int),.int .i64 ln,.int .i64 ix,.string tx,.slice pA pr.length pc] 57));obtain⟨w2,HW2⟩:=nm_ (w1.alloc (.cells #[.int .i64 fr,.int .i64 ix] 109));have hb1:bB w w1:=by rw[←HW1.out];exact qab (bR_ _ _) _
 have hb2:bB w w2:=by rw[←HW2.out];exact qab hb1 _
 have hs1:w1.heap.size=w.heap.size+1:=by rw[←HW1.out];simp
 have hy1:w2.heap[w.heap.size]? =some (.cells #[.int .i64 fr,.int .i64 (j:Int),.int .i64 ln,.int .i64 ix,.string tx,.slice pA pr.length pc] 57 (0,0)):=by rw[←HW2.out,←HW1.out];exact qau (heap_alloc_new _ _)
 have hy2:w2.heap[w.heap.size+1]? =some (.cells #[.int .i64 fr,.int .i64 ix] 109 (0,0)):=by rw[←HW2.out,←hs1];exact heap_alloc_new _ _
 have HB2:=hI_ hb2;obtain⟨c0,c1,c2,c3,c4,c5,cf⟩:=qaa (show w1.heap[w.heap.size]? =some (.cells #[.int .i64 fr,.int .i64 (j:Int),.int .i64 ln,.int .i64 ix,.string tx,.slice pA pr.length pc] 57 (0,0)) by rw[←HW1.out];exact heap_alloc_new _ _);have HY1:=hI_ hy1;have HY2:=hI_ hy2;obtain⟨z0,z1,z2,z3,z4,z5,zf⟩:=qaa hy1;obtain⟨a0,a1,af⟩:=qaH hy2;have ly1:=qai hy1;have ly2:=qai hy2;have lq:=nL_ h.lt hb2.size;have lg:=nL_ hgl hb2.size;have lk2:=nL_ hab hb2.size;have t2:=(hb2.cell (p:=⟨q,o+2,none⟩) h.lt).trans h.bx.c2;have t4:=(hb2.cell (p:=⟨q,o+4,none⟩) h.lt).trans h.bx.c4;have t1:=(hb2.cell (p:=⟨g,j*6+1,none⟩) hgl).trans g1;have tk:=(hb2.cell (p:=⟨bK,j,none⟩) hab).trans ek;have HRK:Hid (RP w2 vk lk):=hI_ (hRK.below hb2);obtain⟨v1,HV1⟩:=nm_ (qc8 lk (fr,ix));have HNO:Hid (v1=false∨jl≠ln→qd2 x ⟨fr,j,ln,ix,tx,pr⟩=x):=hI_ (fun hh=>qtA (by
  rcases hh with h0|h0
  · left;show qc8 (x.asks j) (fr,ix)=false;rw[HAS.out,HV1.out];exact h0
  · right;show(x.feed j).hd.len≠ln;rw[HFD.out,HJL.out];exact h0))
 have hw1:=HW1.out;clear h hv he h1B hB hh cur hb1 hb2 hy1 hy2 hRK hFj g0 g1 g2 g3 g4 g5 ek ht hp hw1;go_enter Tryz.func115,Tryz.ntmps115
 go_upto_region 1 with fail
 rw[HW1.out];go_upto_region 2 with fail
 rw[HW2.out];try rw[hs1]
 clear c0 c1 c2 c3 c4 c5 cf;have hup:=qap w2;cases v1
 · go_wp2_with fail
   refine qoH ?_;repeat(go_big_quiet_step ((go_at_call 147;exact qal (qdn (a:=(fr,ix)) HV1 _ _ (HRK.out.below (qao _ _))))))
   refine wpQuiet_nil ?_;intro w3 hw3;have hb3:=qay hw3;have HBq:Hid (bB w w3):=hI_ (HB2.out.trans (hb3.mono HB2.out.size));clear hw3 hup;have HR:=hI_ (HNO.out (Or.inl k_));go_wp2_with fail
   refine bodyPost_end (results_none Tryz.results115 _ _ _) rfl ?_;rw[HR.out];exact qrH.same HM.out HBq.out
 by_cases hjl:jl=ln;rotate_left
 · go_wp2_with fail
   refine qoH ?_;repeat(go_big_quiet_step ((go_at_call 147;exact qal (qdn (a:=(fr,ix)) HV1 _ _ (HRK.out.below (qao _ _))))))
   refine wpQuiet_nil ?_;intro w3 hw3;have hb3:=qay hw3;have HBq:Hid (bB w w3):=hI_ (HB2.out.trans (hb3.mono HB2.out.size));clear hw3 hup;have HR:=hI_ (HNO.out (Or.inr hjl));go_wp2_with fail
   refine bodyPost_end (results_none Tryz.results115 _ _ _) rfl ?_;rw[HR.out];exact qrH.same HM.out HBq.out
 go_wp2_with fail
 refine qoH ?_;repeat(go_big_quiet_step ((go_at_call 147;exact qal (qdn (a:=(fr,ix)) HV1 _ _ (HRK.out.below (qao _ _))))))
 refine wpQuiet_nil ?_;intro w3 hw3;have hb3:=qay hw3;have HBq:Hid (bB w w3):=hI_ (HB2.out.trans (hb3.mono HB2.out.size));clear hw3 hup;clear a0 a1 af z0 z1 z2 z3 z4 z5 zf t1 t2 t4 tk;have HP3:=hI_ ((hb3.block _ ly1).trans HY1.out);have HA3:=hI_ ((hb3.block _ ly2).trans HY2.out);obtain⟨w4,HW4⟩:=nm_ (w3.alloc (.cells #[.pointer none] 214));have hb34:bB w3 w4:=by rw[←HW4.out];exact qab (bR_ _ _) _
 have HB4:Hid (bB w w4):=hI_ (by rw[←HW4.out];exact qab HBq.out _);have HV4:Hid (w4.heap[w3.heap.size]? =some (.cells #[.pointer none] 214 (0,0))):=hI_ (by rw[←HW4.out];exact heap_alloc_new _ _);have l31:w.heap.size<w3.heap.size:=nL_ ly1 hb3.size;have l32:w.heap.size+1<w3.heap.size:=nL_ ly2 hb3.size;have HP4:=hI_ ((hb34.block _ l31).trans HP3.out);have HA4:=hI_ ((hb34.block _ l32).trans HA3.out);obtain⟨⟨f2,ok⟩,HFP⟩:∃ r,Hid (qes x.feeds[j] ix tx pr=r):=⟨_,hI_ rfl⟩
 have HST:=hI_ (qur x fr ln ix tx pr _ j f2 ok q o B _ _ _ _ w4 (HM.out.below HB4.out) hj hn6 HTS.out (HPR.out.below HB4.out) HFP);have HRES:Hid (qd2 x ⟨fr,j,ln,ix,tx,pr⟩=if ok=true then {x with feeds:=x.feeds.set j f2,asked:=x.asked.set j (qhJ lk (fr,ix))} else {x with asked:=x.asked.set j (qeg lk fr)}):=hI_ (by
  rw[qs9 (by show qc8 (x.asks j) (fr,ix)=true;rw[HAS.out];exact HV1.out) (by show(x.feed j).hd.len=ln;rw[HFD.out,HJL.out];exact hjl)];simp only[HFD.out,HAS.out,Int.toNat_natCast,HFP.out])
 have hl4:w3.heap.size<w4.heap.size:=qai HV4.out;have HLG:Hid (g<w.heap.size):=hI_ hgl;obtain⟨z0,z1,z2,z3,z4,z5,zf⟩:=qaa HP4.out;clear hb3 hb34 hjl lq lg lk2 hs1 ly1 ly2;go_upto_region 4 with fail
 rw[HW4.out];cases ok
 · have HHI:Hid (qsC w4):=hI_ (HER.out.next (qsC.lt HER.out) HB4.out);have hv40:=(qtG HV4.out)
   go_upto_region 5 with(first
    |(go_at_call 191;refine HST.out.mono ?_;rintro e w5 ⟨r,rfl,hr5,hb5⟩;have HR5:=hI_ hr5;have HB5:=hI_ hb5;have HE5:Hid (qsC w5):=hI_ (HHI.out.next (qsC.lt HHI.out) hb5);have HV5:=hI_ ((hb5.block _ hl4).trans HV4.out);clear hr5 hb5)
    |(go_at_call 190;refine(qt3 ⟨r,0,none⟩ ⟨w3.heap.size,0,none⟩ _ _ HE5.out (qtG HV5.out).1 (qtG HV5.out).2).mono ?_;rintro e w6 ⟨rfl,hc6,hg6⟩;have HC6:=hI_ hc6;have HG6:=hI_ hg6;clear hc6 hg6))
   have HB6:Hid (bB w w6):=hI_ (Below.grown (HB4.out.trans (HB5.out.mono HB4.out.size)) HG6.out (Nat.le_trans HB4.out.size HB5.out.size) (fun r hr=>by cases hr;exact Nat.le_of_lt l31));have nr5:r≠w3.heap.size:=fun e=>by
    have h1:=HR5.out;rw[e,HV5.out] at h1;simp at h1
   have HR6:=hI_ ((HG6.out.block r (qai HR5.out) (fun e=>by cases e;exact nr5 rfl)).trans HR5.out);have HP6:=hI_ ((HG6.out.block _ (nL_ (Nat.lt_trans l31 hl4) HB5.out.size) (fun e=>Nat.ne_of_lt l31 (Option.some.inj e))).trans ((HB5.out.block _ (Nat.lt_trans l31 hl4)).trans HP4.out));obtain⟨_,_,vk6,hA,hab6,ek6,hRK6⟩:=(HM.out.below HB6.out).p.A.r.at_ hka;cases hA;rw[Nat.zero_add] at ek6;clear z0 z1 z2 z3 z4 z5 zf;obtain⟨z0,z1,z2,z3,z4,z5,zf⟩:=qaa HP6.out;have l61:=qai HP6.out;have lq6:=(HM.out.below HB6.out).lt;have t4:=(HM.out.below HB6.out).bx.c4;have r0:=(qtG HR6.out).1;have c6:=HC6.out;have lr6:=qai HR6.out;have HRK6:Hid (RP w6.drew vk6 lk):=hI_ (by rw[←HLK.out];exact hRK6.below (qac (bR_ _ _)));have HWD:=hI_ (qsD lk fr vk6 _ HRK6.out HKL.out);have hl36:w3.heap.size<w6.heap.size:=nL_ (nL_ hl4 HB5.out.size) HG6.out.size;clear hRK6 z0 z2 z3 z4 z5 zf;have d4:w6.drew.cell? ⟨q,o+4,none⟩=_:=t4;have d1:w6.drew.cell? ⟨w.heap.size,1,none⟩=_:=z1;have dk:w6.drew.cell? ⟨bK,j,none⟩=_:=ek6;have da:w6.drew.cell? ⟨w3.heap.size,0,none⟩=_:=c6;have db:w6.drew.cell? ⟨r,0,none⟩=_:=r0;have nq:bK≠q:=fun e=>by
    obtain⟨_,F,h1,_⟩:=(HM.out.below HB6.out).p.A;obtain⟨cur,hty⟩:=h1.row0 bK rfl;exact(HM.out.below HB6.out).bx.row hty e_ e.symm
   have n0:bK≠w.heap.size:=Nat.ne_of_lt hab;have n1:bK≠w3.heap.size:=Nat.ne_of_lt (Nat.lt_trans hab l31);have n2:bK≠r:=fun e=>by
    obtain⟨_,F,h1,_⟩:=(HM.out.below HB6.out).p.A;obtain⟨cur,hty⟩:=h1.row0 bK rfl;rw[e,HR6.out] at hty;simp at hty
   have HW7:Hid (∀ (w7:World) (A7:Option Addr) (m7 c7:Nat),qav w6.drew.heap.size 109 w7 (.slice A7 m7 c7) (qeg lk fr)→Below w6.drew.heap.size w6.drew w7→w7.cell? ⟨bK,j,none⟩=some vk6∧w7.frozen? ⟨bK,j,none⟩=false∧Hid (qrH B q o w {x with asked:=x.asked.set j (qeg lk fr)} (.returned (.tuple #[])) (w7.setCell ⟨bK,j,none⟩ (.slice A7 m7 c7)))):=hI_ (fun w7 A7 m7 c7 hp7 hb7=>by
    have hb67:bB w6 w7:=(qac (bR_ w6.heap.size w6)).trans hb7;have hbb:bB w w7:=HB6.out.trans (hb67.mono HB6.out.size);obtain⟨_,F,h1,_⟩:=(HM.out.below hbb).p.A;obtain⟨cur,hty⟩:=h1.row0 bK rfl;exact⟨(hb67.cell (p:=⟨bK,j,none⟩) hab6).trans ek6,qgI hty _,hI_ (HM.out.askPost hbb hka hp7 HB6.out.size)⟩)
   refine wp_region_held_drew (S:=fun w'=>w'.cell? ⟨q,o+4,none⟩=some (.slice (some ⟨bK,0,none⟩) x.asked.length vAc)∧w'.cell? ⟨w.heap.size,1,none⟩=some (.int .i64 (j:Int))∧w'.cell? ⟨w3.heap.size,0,none⟩=some (.pointer (some ⟨r,0,none⟩))∧w'.cell? ⟨r,0,none⟩=some (.int .i64 fr)) d_ ⟨d4,d1,da,db⟩ (fun hS=> ?_);refine tH_ 0 ?_;refine tH_ 1 ?_;refine tH_ 2 ?_;refine tH_ 3 ?_;refine tH_ 4 ?_;refine tH_ 5 ?_;refine tH_ 6 ?_;refine tH_ 7 ?_;refine tH_ 8 ?_;refine tH_ 9 ?_;refine tH_ 10 ?_;refine tH_ 11 ?_;refine tH_ 12 ?_;refine tH_ 14 ?_;refine tH_ 15 ?_;refine tH_ 16 ?_;refine tH_ 17 ?_;refine wpAnyH_ready (rs:=[13]) d_ k_ (AllReadyH.cons rfl (fun K1 hK1=> ?_) .nil);go_simp;refine hK1.out _ _ ⟨d4,d1,da,db⟩ (fun hS=> ?_);refine wpAnyH_ready (rs:=[18]) d_ k_ (AllReadyH.cons rfl (fun K2 hK2=> ?_) .nil);go_simp;go_at_call 192
   refine HWD.out.mono ?_;rintro e w7 ⟨v7,n7,rfl,hp7,hb7⟩;obtain⟨A7,m7,c7,rfl⟩:=qav.sl3 hp7;obtain⟨ek7,f7,HFIN⟩:=HW7.out _ _ _ _ hp7 hb7;have hS7:=And.intro ((hb7.cell (p:=⟨q,o+4,none⟩) lq6).trans d4) (And.intro ((hb7.cell (p:=⟨w.heap.size,1,none⟩) l61).trans d1) (And.intro ((hb7.cell (p:=⟨w3.heap.size,0,none⟩) hl36).trans da) ((hb7.cell (p:=⟨r,0,none⟩) lr6).trans db)));refine hK2.out _ _ hS7 (fun _=> ?_);clear hS;have hS:=hS7;refine tH_ 19 ?_;refine tH_ 20 ?_;refine tH_ 21 ?_;refine tH_ 22 ?_;refine wpAnyH_ready (rs:=[23]) d_ k_ (AllReadyH.cons rfl (fun K3 hK3=> ?_) .nil);go_simp;refine hK3.out _ _ ⟨(World.cell?_setCell_far _ _ _ _ nq).trans hS.1,(World.cell?_setCell_far _ _ _ _ n0).trans hS.2.1,(World.cell?_setCell_far _ _ _ _ n1).trans hS.2.2.1,(World.cell?_setCell_far _ _ _ _ n2).trans hS.2.2.2⟩ (fun _=> ?_);refine wpAnyH_done d_ ?_ _;go_wp2_with fail
   refine bodyPost_end (results_none Tryz.results115 _ _ _) rfl ?_;rw[HRES.out,if_neg k_];exact HFIN.out
 · go_upto_region 6 with(first
    |(go_at_call 191;refine HST.out.mono ?_;rintro e w5 ⟨rfl,hm5,hg5⟩;have HM5:=hI_ hm5;have HG5:=hI_ hg5;clear hm5 hg5)
    |(go_at_call 190;refine(quy _ _).mono ?_;rintro e w6 ⟨rfl,rfl⟩))
   obtain⟨w5,rfl⟩:∃ W,W=w6:=⟨_,rfl⟩
   have hg5:w4.grownBy w5 (some g):=HG5.out;have HP5:=hI_ ((hg5.block _ (Nat.lt_trans l31 hl4) (fun e=>by cases e;exact Nat.lt_irrefl _ HLG.out)).trans HP4.out);have HA5:=hI_ ((hg5.block _ (Nat.lt_trans l32 hl4) (fun e=>by cases e;exact absurd HLG.out a_)).trans HA4.out);obtain⟨_,_,vk5,hA,hab5,ek5,hRK5⟩:=HM5.out.p.A.r.at_ hka;cases hA;rw[Nat.zero_add] at ek5;clear z0 z1 z2 z3 z4 z5 zf;obtain⟨z0,z1,z2,z3,z4,z5,zf⟩:=qaa HP5.out;obtain⟨a0,a1,af⟩:=qaH HA5.out;have l51:=qai HP5.out;have l52:=qai HA5.out;have lq5:=HM5.out.lt;have t4:=HM5.out.bx.c4;have HRK5:Hid (RP w5.drew vk5 lk):=hI_ (by rw[←HLK.out];exact hRK5.below (qac (bR_ _ _)));have HWG:=hI_ (qsT lk (fr,ix) vk5 _ HRK5.out HKL.out);have HAF:Hid (∀ W,bB w5 W→W.frozen? ⟨bK,j,none⟩=false):=hI_ (fun W hW=>by
    obtain⟨_,F,h1,_⟩:=(HM5.out.below hW).p.A;obtain⟨cur,hty⟩:=h1.row0 bK rfl;exact qgI hty _)
   clear hRK5 z0 z2 z3 z4 z5 zf af;have d4:w5.drew.cell? ⟨q,o+4,none⟩=_:=t4;have d1:w5.drew.cell? ⟨w.heap.size,1,none⟩=_:=z1;have dk:w5.drew.cell? ⟨bK,j,none⟩=_:=ek5;have da:w5.drew.cell? ⟨w.heap.size+1,0,none⟩=_:=a0;have db:w5.drew.cell? ⟨w.heap.size+1,1,none⟩=_:=a1;have HW7:Hid (∀ (w7:World) (A7:Option Addr) (m7 c7:Nat),qav w5.drew.heap.size 109 w7 (.slice A7 m7 c7) (qhJ lk (fr,ix))→Below w5.drew.heap.size w5.drew w7→w7.cell? ⟨q,o+4,none⟩=some (.slice (some ⟨bK,0,none⟩) x.asked.length vAc)∧w7.cell? ⟨w.heap.size,1,none⟩=some (.int .i64 (j:Int))∧w7.cell? ⟨bK,j,none⟩=some vk5∧w7.frozen? ⟨bK,j,none⟩=false∧Hid (qrH B q o w5 {x with feeds:=x.feeds.set j f2,asked:=x.asked.set j (qhJ lk (fr,ix))} (.returned (.tuple #[])) (w7.setCell ⟨bK,j,none⟩ (.slice A7 m7 c7)))):=hI_ (fun w7 A7 m7 c7 hp7 hb7=>by
    have hb57:bB w5 w7:=(qac (bR_ w5.heap.size w5)).trans hb7;exact⟨(hb57.cell (p:=⟨q,o+4,none⟩) lq5).trans t4,(hb57.cell (p:=⟨w.heap.size,1,none⟩) l51).trans z1,(hb57.cell (p:=⟨bK,j,none⟩) hab5).trans ek5,HAF.out _ hb57,hI_ (HM5.out.askPost hb57 hka hp7 (nr_ _))⟩)
   refine wp_region_held_drew (S:=fun w'=>w'.cell? ⟨q,o+4,none⟩=some (.slice (some ⟨bK,0,none⟩) x.asked.length vAc)∧w'.cell? ⟨w.heap.size,1,none⟩=some (.int .i64 (j:Int))∧w'.cell? ⟨w.heap.size+1,0,none⟩=some (.int .i64 fr)∧w'.cell? ⟨w.heap.size+1,1,none⟩=some (.int .i64 ix)) d_ ⟨d4,d1,da,db⟩ (fun hS=> ?_);refine tH_ 0 ?_;refine tH_ 1 ?_;refine tH_ 2 ?_;refine tH_ 3 ?_;refine tH_ 4 ?_;refine tH_ 5 ?_;refine tH_ 6 ?_;refine tH_ 7 ?_;refine tH_ 8 ?_;refine tH_ 9 ?_;refine tH_ 10 ?_;refine tH_ 11 ?_;refine tH_ 12 ?_;refine tH_ 14 ?_;refine wpAnyH_ready (rs:=[13]) d_ k_ (AllReadyH.cons rfl (fun K1 hK1=> ?_) .nil);go_simp;refine hK1.out _ _ ⟨d4,d1,da,db⟩ (fun hS=> ?_);refine wpAnyH_ready (rs:=[15]) d_ k_ (AllReadyH.cons rfl (fun K2 hK2=> ?_) .nil);go_simp;go_at_call 193
   refine HWG.out.mono ?_;rintro e w7 ⟨v7,n7,rfl,hp7,hb7⟩;obtain⟨A7,m7,c7,rfl⟩:=qav.sl3 hp7;obtain⟨e4,e1,ek7,f7,HFIN⟩:=HW7.out _ _ _ _ hp7 hb7;have hS7:=And.intro e4 (And.intro e1 (And.intro ((hb7.cell (p:=⟨w.heap.size+1,0,none⟩) l52).trans da) ((hb7.cell (p:=⟨w.heap.size+1,1,none⟩) l52).trans db)));refine hK2.out _ _ hS7 (fun _=> ?_);clear hS;have hS:=hS7;refine tH_ 16 ?_;refine tH_ 17 ?_;refine tH_ 18 ?_;refine tH_ 19 ?_;have nq:bK≠q:=fun e=>by
    obtain⟨_,F,h1,_⟩:=HM5.out.p.A;obtain⟨cur,hty⟩:=h1.row0 bK rfl;exact HM5.out.bx.row hty e_ e.symm
   have n0:bK≠w.heap.size:=Nat.ne_of_lt hab;have n1:bK≠w.heap.size+1:=Nat.ne_of_lt (Nat.lt_succ_of_lt hab);refine wpAnyH_ready (rs:=[20]) d_ k_ (AllReadyH.cons rfl (fun K3 hK3=> ?_) .nil);go_simp;refine hK3.out _ _ ⟨(World.cell?_setCell_far _ _ _ _ nq).trans hS.1,(World.cell?_setCell_far _ _ _ _ n0).trans hS.2.1,(World.cell?_setCell_far _ _ _ _ n1).trans hS.2.2.1,(World.cell?_setCell_far _ _ _ _ n1).trans hS.2.2.2⟩ (fun _=> ?_);refine wpAnyH_done d_ ?_ _;go_wp2_with fail
   refine bodyPost_end (results_none Tryz.results115 _ _ _) rfl ?_;rw[HRES.out,if_pos trivial];exact HFIN.out.pre2 (Below.grown (HB4.out.mono HM.out.bs) HG5.out (HM.out.below HB4.out).bs (fun r hr=>(HM5.out.p.F.lt' r hr).1)) (fun i hi=>(World.cell?_of_block (hg5.block q (HM.out.below HB4.out).lt (fun e=>by cases e;exact hqg rfl))).trans (World.cell?_of_block (HB4.out.block q HM.out.lt)))
end Go.Proofs.YtekaaekpdebloaaGreatDoor
namespace Go.Proofs.YtekaaekpdebloaaGreatDoor
open Go.RowKit

theorem qui{α:Type}{enc:α→Value}(h1:∀ x,(enc x).oneCell'=true){P:Program}{o:Oper}{a:Act}{K:Act→World→Prop}{Q:Exit→Act→World→Prop}{w:World}(t e bytes:Nat)(i:TypeInfo)(z:Value)
 (ht:P.underlying t=some (.slice e)) (hi:P.info? e=some i) (hz:i.zero=some z) (hsize:i.size=1) (hby:i.bytes=bytes) (hzs:z.cells.size=1) (hb100:bytes≤1000)
 {base g:Nat} {v:Value} {l:List α} {y:α} (hown:O1 enc base e w v l) (hn:l.length+1≤100000000000) (hbase:base≤w.heap.size)
 {s x:Operand} (ho:o.op=.call {callee:=.builtin .append,args:= #[s,x],argTypes:= #[t,t]}) (hs:a.eval s=v) (hx:a.eval x=.slice (some ⟨g,0,none⟩) 1 1) (hg:w.cell? ⟨g,0,none⟩=some (enc y))
 (h:∀ v' w',O1 enc base e w' v' (l++[y])→O1 enc base e w' v l→w.grownBy w' v.ownBlock→(v'.ownBlock=v.ownBlock∨v'.ownBlock=some w.heap.size)→K (a.put o.dst v') w'):o.wp P a w K Q:=by
 have hbd:(l.length+1)*bytes≤100000000000*1000:=Nat.mul_le_mul hn hb100;have hnews:∀ j u,[enc y][j]? =some u→w.cell? ((⟨g,0,none⟩:Addr).add j)=some u:=by
  intro j u hu;rcases j with _|j
  · have:u=enc y:=by simpa using hu.symm
    subst this;exact hg
  · simp at hu
 obtain⟨v',w',hr,h2,h3,_,h5⟩:=run_append_own_at (P:=P) w base t o.type e i z 1 bytes ht hi hz hsize hby hzs a_ v l.length _ hown ⟨g,0,none⟩ 1 1 [enc y] rfl hnews (by simpa using h1 y) s_ a_ hbase;have hnew:O1 enc base e w' v' (l++[y]):=by unfold O1;simpa using h2
 have hold:O1 enc base e w' v l:=by
  rcases hown.2 with⟨rfl,h0⟩|⟨k,cap,cur,rfl,hbg,hk,hnc,hcm,hcs,htk⟩
  · have:l=[]:=List.eq_nil_of_length_eq_zero h0;subst this;exact O1.nil _ _ _ _
  · by_cases hroom:l.length+1≤cap
    · have hr2:=run_append_room (P:=P) w t o.type e i ht hi k l.length cap cur hk ⟨g,0,none⟩ 1 1 [enc y] (by rw[hsize];rfl) hnews (by simpa using h1 y) hroom (by rw[hsize,hcs];simp;omega);rw[hr] at hr2;cases hr2
      refine⟨k_,.inr ⟨k,cap,_,rfl,hbg,setRow_heap w k cur _ e _ hk,hnc,hcm,?_,?_⟩⟩
      · simp only[List.size_toArray,List.length_append,List.length_take,List.length_drop,Array.length_toList,hsize,List.length_cons,List.length_nil];omega
      · rw[hsize,htk,List.append_assoc,List.take_left' k_]
    · have holds:∀ j u,(l.map enc)[j]? =some u→w.cell? ((⟨k,0,none⟩:Addr).add j)=some u:=World.ownsRow.cells hown (g:=k) rfl;have hr2:=run_append_grow (P:=P) w t o.type e i z ht hi hz ⟨k,0,none⟩ l.length cap (l.map enc) (by simp[hsize]) holds ⟨g,0,none⟩ 1 1 [enc y] (by rw[hsize];rfl) hnews a_ a_ (growslice_fits a_ (by rw[hby];omega));rw[hr] at hr2;cases hr2
      exact(hown.below (w':=w.drew) (qac (bR_ _ _))).alloc _
 unfold Oper.wp execOp;simp only[ho,resolve,invoke,builtin,Sem.run_bind,Sem.run_pure,Result.andThen_ok,List.map_toArray,List.map_cons,List.map_nil,hs,hx,hr];exact h v' w' hnew hold h3 h5

theorem Dis.re{n:Nat}{G G':Nat→Value}(h:Dis n G)(he:∀ j,j<n→G' j=G j):Dis n G':=fun i j hij hj k hk=>by
 rw[he j hj];rw[he i a_] at hk;exact h i j hij hj k hk
theorem qa7.re{B C:Nat}{w w':World}{v:Value}{fs:List Fd}{j:Nat}{f':Fd}{F F':Nat→Value}(hU:Up C v)
 (hF:∀ i (hi:i<fs.length),F (i*6)=.int .i64 fs[i].pub∧F (i*6+1)=.int .i64 fs[i].hd.len∧F (i*6+2)=.int .i64 fs[i].hd.dg∧F (i*6+3)=.int .i64 fs[i].hd.sg∧qaK B w fs[i] (F (i*6+4)) (F (i*6+5))∧Up C (F (i*6+4))∧Up C (F (i*6+5)))
 (hD:Dis fs.length (fun j=>F (j*6+4))∧Dis fs.length (fun j=>F (j*6+5)))
 (hN:ON 6 B 50 w' v fs.length F') (hlow:∀ i,i<fs.length→i≠j→F' (i*6)=F (i*6)∧F' (i*6+1)=F (i*6+1)∧F' (i*6+2)=F (i*6+2)∧F' (i*6+3)=F (i*6+3)) (hhigh:∀ i,i<fs.length→F' (i*6+4)=F (i*6+4)∧F' (i*6+5)=F (i*6+5))
 (hnew:F' (j*6)=.int .i64 f'.pub∧F' (j*6+1)=.int .i64 f'.hd.len∧F' (j*6+2)=.int .i64 f'.hd.dg∧F' (j*6+3)=.int .i64 f'.hd.sg) (hfo:qaK B w' f' (F (j*6+4)) (F (j*6+5)))
 (hoth:∀ i (hi:i<fs.length),i≠j→qaK B w' fs[i] (F (i*6+4)) (F (i*6+5))):qa7 B C w' v (fs.set j f'):=by
 refine⟨hU,F',by rw[List.length_set];exact hN,fun i hi=> ?_,?_⟩
 · rw[List.length_set] at hi;obtain⟨a0,a1,a2,a3,a4,a5,a6⟩:=hF i hi;rw[(hhigh i hi).1,(hhigh i hi).2,List.getElem_set];by_cases hij:j=i
   · rw[if_pos hij];subst hij;exact⟨hnew.1,hnew.2.1,hnew.2.2.1,hnew.2.2.2,hfo,a5,a6⟩
   · rw[if_neg hij];obtain⟨l0,l1,l2,l3⟩:=hlow i hi (fun h=>hij h.symm);rw[l0,l1,l2,l3];exact⟨a0,a1,a2,a3,hoth i hi (fun h=>hij h.symm),a5,a6⟩
 · rw[List.length_set];exact⟨hD.1.re fun i hi=>(hhigh i hi).1,hD.2.re fun i hi=>(hhigh i hi).2⟩
section
variable {B C g n cap:Nat} {w w':World} {fs:List Fd} {vb vh ub uh:Value}
theorem qa7.app4(h:qa7 B C w (.slice (some ⟨g,0,none⟩) n cap) fs)(h0:0<fs.length)(hc:w.cell? ⟨g,4,none⟩=some vb)(hg:w.grownBy w' vb.ownBlock)(ho:O1 Value.string B 9 w' vb fs[0].bl):
 qa7 B C w' (.slice (some ⟨g,0,none⟩) n cap) fs:=by
 obtain⟨hU,F,h1,h2,h3,h4⟩:=h;obtain⟨_,_,he⟩:=h1.rn.sl;obtain rfl:n=fs.length:=J_;have e4:F 4=vb:=by
  have:=(h1.at_ (t:=4) a_).1;rw[hc] at this;exact(Option.some.inj this).symm
 obtain⟨_,_,_,_,f4,_,_⟩:=h2 0 h0;rw[Nat.zero_mul,Nat.zero_add,e4] at f4;have hk:qaA [50,4] w w':=qaA.of_grown hg (f4.bl.off e_);refine⟨hU,F,h1.keepT hk e_,fun j hj=> ?_,h3,h4⟩;obtain⟨g0,g1,g2,g3,g4,g5,g6⟩:=h2 j hj;refine⟨g0,g1,g2,g3,⟨?_,g4.hv.keepT hk e_⟩,g5,g6⟩;by_cases hj0:j=0
 · subst hj0;rw[Nat.zero_mul,Nat.zero_add,e4];exact ho
 · refine g4.bl.grown hg ?_;rcases hob:(F (j*6+4)).ownBlock with _|k
   · exact .inl rfl
   · refine .inr fun e=> ?_;have:=h3 0 j a_ hj k (by simp only[Nat.zero_mul,Nat.zero_add];rw[e4];exact e.symm);exact this hob
theorem qa7.app5(h:qa7 B C w (.slice (some ⟨g,0,none⟩) n cap) fs)(h0:0<fs.length)(hc:w.cell? ⟨g,5,none⟩=some vh)(hg:w.grownBy w' vh.ownBlock)(ho:O1 Value.bool B 4 w' vh fs[0].hv):
 qa7 B C w' (.slice (some ⟨g,0,none⟩) n cap) fs:=by
 obtain⟨hU,F,h1,h2,h3,h4⟩:=h;obtain⟨_,_,he⟩:=h1.rn.sl;obtain rfl:n=fs.length:=J_;have e4:F 5=vh:=by
  have:=(h1.at_ (t:=5) a_).1;rw[hc] at this;exact(Option.some.inj this).symm
 obtain⟨_,_,_,_,f4,_,_⟩:=h2 0 h0;rw[Nat.zero_mul,Nat.zero_add,Nat.zero_add,e4] at f4;have hk:qaA [50,9] w w':=qaA.of_grown hg (f4.hv.off e_);refine⟨hU,F,h1.keepT hk e_,fun j hj=> ?_,h3,h4⟩;obtain⟨g0,g1,g2,g3,g4,g5,g6⟩:=h2 j hj;refine⟨g0,g1,g2,g3,⟨g4.bl.keepT hk e_,?_⟩,g5,g6⟩;by_cases hj0:j=0
 · subst hj0;rw[Nat.zero_mul,Nat.zero_add,e4];exact ho
 · refine g4.hv.grown hg ?_;rcases hob:(F (j*6+5)).ownBlock with _|k
   · exact .inl rfl
   · refine .inr fun e=> ?_;have:=h4 0 j a_ hj k (by simp only[Nat.zero_mul,Nat.zero_add];rw[e4];exact e.symm);exact this hob
theorem qa7.put45{bl:List ByteArray}{hv:List Bool}(h:qa7 B C w (.slice (some ⟨g,0,none⟩) n cap) fs)(h0:0<fs.length)(cb:w.cell? ⟨g,4,none⟩=some vb)(ch:w.cell? ⟨g,5,none⟩=some vh)
 (hb:O1 Value.string B 9 w ub bl) (eb:ub.ownBlock=vb.ownBlock∨∀ k,ub.ownBlock=some k→C≤k) (hh:O1 Value.bool B 4 w uh hv) (eh:uh.ownBlock=vh.ownBlock∨∀ k,uh.ownBlock=some k→C≤k) (hC:C≤w.heap.size):
 qa7 B w.heap.size ((w.setCell ⟨g,4,none⟩ ub).setCell ⟨g,5,none⟩ uh) (.slice (some ⟨g,0,none⟩) n cap) (fs.set 0 ⟨fs[0].pub,fs[0].hd,bl,hv⟩)∧w.grownBy ((w.setCell ⟨g,4,none⟩ ub).setCell ⟨g,5,none⟩ uh) (some g):=by
 obtain⟨hU,F,h1,h2,h3,h4⟩:=h;obtain⟨_,_,he⟩:=h1.rn.sl;obtain rfl:n=fs.length:=J_;have e4:F 4=vb:=by
  have:=(h1.at_ (t:=4) a_).1;rw[cb] at this;exact(Option.some.inj this).symm
 have e5:F 5=vh:=by
  have:=(h1.at_ (t:=5) a_).1;rw[ch] at this;exact(Option.some.inj this).symm
 have a0:=h1.setAt (t:=4) a_ ub;have a1:=a0.1.setAt (t:=5) a_ uh;have hg:=qat a0.2 a1.2;obtain⟨cur,hty⟩:=h1.row0 g rfl;have hk:qaA LB w _:=qaA.of_grown hg (fun r hr=>by cases hr;exact⟨cur,_,_,hty,e_⟩);refine⟨⟨fun k hk=>nL_ (hU k hk) hC,_,by rw[List.length_set];exact a1.1,fun j hj=> ?_,?_,?_⟩,hg⟩
 · rw[List.length_set] at hj;obtain⟨g0,g1,g2,g3,g4,g5,g6⟩:=h2 j hj;by_cases hj0:j=0
   · subst hj0;rw[List.getElem_set_self];refine⟨by simpa using g0,by simpa using g1,by simpa using g2,by simpa using g3,⟨by simpa using hb.keepT hk e_,by simpa using hh.keepT hk e_⟩,by simpa using hb.up_,by simpa using hh.up_⟩
   · rw[List.getElem_set_ne (Ne.symm hj0)];have q:∀ t,t<6→(if j*6+t=5 then uh else if j*6+t=4 then ub else F (j*6+t))=F (j*6+t):=fun t ht=>by rw[if_neg a_,if_neg a_]
     have q0:=q 0 a_;rw[Nat.add_zero] at q0;simp only[q0,q 1 a_,q 2 a_,q 3 a_,q 4 a_,q 5 a_];exact⟨g0,g1,g2,g3,g4.keep hk e_ e_,g5.mono hC,g6.mono hC⟩
 · rw[List.length_set];intro i j hij hj b hbk;have q:∀ i,i≠0→(if i*6+4=5 then uh else if i*6+4=4 then ub else F (i*6+4))=F (i*6+4):=fun i hi=>by rw[if_neg a_,if_neg a_]
   simp only at hbk ⊢;rw[q j a_];by_cases hi:i=0
   · subst hi;rw[Nat.zero_mul,Nat.zero_add,if_neg a_,if_pos rfl] at hbk;rcases eb with e|e
     · exact h3 0 j hij hj b (by simp only[Nat.zero_mul,Nat.zero_add];rw[e4,←e];exact hbk)
     · intro e2;have:=e b hbk;have:=(h2 j hj).2.2.2.2.2.1 b e2;omega
   · rw[q i hi] at hbk;exact h3 i j hij hj b hbk
 · rw[List.length_set];intro i j hij hj b hbk;have q:∀ i,i≠0→(if i*6+5=5 then uh else if i*6+5=4 then ub else F (i*6+5))=F (i*6+5):=fun i hi=>by rw[if_neg a_,if_neg a_]
   simp only at hbk ⊢;rw[q j a_];by_cases hi:i=0
   · subst hi;rw[Nat.zero_mul,Nat.zero_add,if_pos rfl] at hbk;rcases eh with e|e
     · exact h4 0 j hij hj b (by simp only[Nat.zero_mul,Nat.zero_add];rw[e5,←e];exact hbk)
     · intro e2;have:=e b hbk;have:=(h2 j hj).2.2.2.2.2.2 b e2;omega
   · rw[q i hi] at hbk;exact h4 i j hij hj b hbk
theorem qa7.put123(hd:Hd)(h:qa7 B C w (.slice (some ⟨g,0,none⟩) n cap) fs)(h0:0<fs.length):
 qa7 B C (((w.setCell ⟨g,1,none⟩ (.int .i64 hd.len)).setCell ⟨g,2,none⟩ (.int .i64 hd.dg)).setCell ⟨g,3,none⟩ (.int .i64 hd.sg)) (.slice (some ⟨g,0,none⟩) n cap) (fs.set 0 ⟨fs[0].pub,hd,fs[0].bl,fs[0].hv⟩)∧
  w.grownBy (((w.setCell ⟨g,1,none⟩ (.int .i64 hd.len)).setCell ⟨g,2,none⟩ (.int .i64 hd.dg)).setCell ⟨g,3,none⟩ (.int .i64 hd.sg)) (some g):=by
 obtain⟨hU,F,h1,h2,h3,h4⟩:=h;obtain⟨_,_,he⟩:=h1.rn.sl;obtain rfl:n=fs.length:=J_;have a0:=h1.setAt (t:=1) a_ (.int .i64 hd.len);have a1:=a0.1.setAt (t:=2) a_ (.int .i64 hd.dg);have a2:=a1.1.setAt (t:=3) a_ (.int .i64 hd.sg);have hg:=qat (qat a0.2 a1.2) a2.2;obtain⟨cur,hty⟩:=h1.row0 g rfl;have hk:qaA LB w _:=qaA.of_grown hg (fun r hr=>by cases hr;exact⟨cur,_,_,hty,e_⟩);refine⟨qa7.re hU h2 ⟨h3,h4⟩ a2.1 (fun i hi hne=> ?_) (fun i hi=> ?_) ?_ ?_ (fun i hi _=>(h2 i hi).2.2.2.2.1.keep hk e_ e_),hg⟩
 · refine⟨?_,?_,?_,?_⟩ <;> (rw[if_neg a_,if_neg a_,if_neg a_])
 · constructor <;> (rw[if_neg a_,if_neg a_,if_neg a_])
 · obtain⟨g0,_⟩:=h2 0 h0;exact⟨by simpa using g0,k_,k_,k_⟩
 · have:=(h2 0 h0).2.2.2.2.1.keep hk e_ e_;exact⟨this.bl,this.hv⟩
end

structure GrK (B q o g n cap:Nat) (w:World) (x:Wd) (vL vA vN vb vh:Value) (wr:World):Prop where
 m:MI B q o x wr (.slice (some ⟨g,0,none⟩) n cap) vL vA vN
 f:qa7 B w.heap.size wr (.slice (some ⟨g,0,none⟩) n cap) x.feeds
 b:Below B w wr
 k:∀ i,i<o→wr.cell? ⟨q,i,none⟩=w.cell? ⟨q,i,none⟩
 s:w.heap.size≤wr.heap.size
 c4:wr.cell? ⟨g,4,none⟩=some vb
 c5:wr.cell? ⟨g,5,none⟩=some vh
structure GrB {α:Type} (enc:α→Value) (e:TypeId) (B s:Nat) (v:Value) (l:List α) (u:Value) (wr:World):Prop where
 o:O1 enc B e wr u l
 p:u.ownBlock=v.ownBlock∨∀ k,u.ownBlock=some k→s≤k
section
variable {B q o g n cap:Nat} {w wr w2:World} {x:Wd} {vL vA vN vb vh:Value}
theorem GrB.keep{α:Type}{enc:α→Value}{e:TypeId}{s:Nat}{v u:Value}{l:List α}{T:List TypeId}(h:GrB enc e B s v l u wr)(hk:qaA T wr w2)(he:e ∈ T):GrB enc e B s v l u w2:=⟨h.o.keepT hk he,h.p⟩
theorem GrK.gl(h:GrK B q o g n cap w x vL vA vN vb vh wr):B≤g∧g<wr.heap.size:=by
 obtain⟨_,F,h1,_⟩:=h.f;exact h1.lt g rfl
theorem GrK.fz(h:GrK B q o g n cap w x vL vA vN vb vh wr)(i:Nat):wr.frozen? ⟨g,i,none⟩=false:=by
 obtain⟨_,F,h1,_⟩:=h.f;obtain⟨cur,hty⟩:=h1.row0 g rfl;exact qgI hty i
theorem GrK.below(h:GrK B q o g n cap w x vL vA vN vb vh wr)(hb:bB wr w2):GrK B q o g n cap w x vL vA vN vb vh w2:=
 ⟨h.m.below hb,h.f.below hb,h.b.trans (hb.mono h.m.bs),fun i hi=>(World.cell?_of_block (hb.block q h.m.lt)).trans (h.k i hi),Nat.le_trans h.s hb.size,(hb.cell (p:=⟨g,4,none⟩) h.gl.2).trans h.c4,(hb.cell (p:=⟨g,5,none⟩) h.gl.2).trans h.c5⟩
theorem GrK.rows(h:GrK B q o g n cap w x vL vA vN vb vh wr)(h0:0<x.feeds.length):O1 Value.string B 9 wr vb x.feeds[0].bl∧O1 Value.bool B 4 wr vh x.feeds[0].hv:=by
 obtain⟨_,F,h1,h2,_⟩:=h.f;obtain⟨_,_,he⟩:=h1.rn.sl;obtain rfl:n=x.feeds.length:=J_;have e4:F 4=vb:=by
  have:=(h1.at_ (t:=4) a_).1;rw[h.c4] at this;exact(Option.some.inj this).symm
 have e5:F 5=vh:=by
  have:=(h1.at_ (t:=5) a_).1;rw[h.c5] at this;exact(Option.some.inj this).symm
 have:=(h2 0 h0).2.2.2.2.1;simp only[Nat.zero_mul,Nat.zero_add] at this;rw[e4,e5] at this;exact⟨this.bl,this.hv⟩
theorem GrK.grown{r:Option Nat}{T:List TypeId}(h:GrK B q o g n cap w x vL vA vN vb vh wr)(hf:qa7 B w.heap.size w2 (.slice (some ⟨g,0,none⟩) n cap) x.feeds)(hg:wr.grownBy w2 r)(hk:qaA T wr w2)
 (t1:99 ∈ T) (t2:54 ∈ T) (t3:109 ∈ T) (t4:57 ∈ T) (t5:3 ∈ T) (t6:50 ∈ T) (hr:∀ k,r=some k→B≤k∧k≠q):GrK B q o g n cap w x vL vA vN vb vh w2:=by
 have hs:=hg.size;have hq:w2.heap[q]? =wr.heap[q]? :=hg.block q h.m.lt (fun e=>(hr q e.symm).2 rfl);obtain⟨_,F,h1,_⟩:=h.f;obtain⟨cur,hty⟩:=h1.row0 g rfl;have hgg:w2.heap[g]? =wr.heap[g]? :=hk.2 g _ _ _ hty t6;exact⟨⟨h.m.bx.heap hq,⟨hf.mono (nr_ _) (Nat.le_trans h.s hs),(h.m.p.L.keepT hk t1).mono (nr_ _) hs,(h.m.p.A.nextT hk t2 t3).mono (nr_ _) hs,(h.m.p.N.nextT hk t4 t5).mono (nr_ _) hs⟩,h.m.bq⟩,hf,
  Below.grown h.b hg h.m.bs (fun k hk=>(hr k hk).1),fun i hi=>(World.cell?_of_block hq).trans (h.k i hi),Nat.le_trans h.s hs,(World.cell?_of_block hgg).trans h.c4,(World.cell?_of_block hgg).trans h.c5⟩
def LG4:List TypeId:=[99,54,109,57,3,50,4]
def LG5:List TypeId:=[99,54,109,57,3,50,9]
theorem GrK.app4(h:GrK B q o g n cap w x vL vA vN vb vh wr)(h0:0<x.feeds.length)(hg:wr.grownBy w2 vb.ownBlock)(ho:O1 Value.string B 9 w2 vb x.feeds[0].bl):GrK B q o g n cap w x vL vA vN vb vh w2∧qaA LG4 wr w2:=by
 obtain⟨r1,r2⟩:=h.rows h0;have hk:qaA LG4 wr w2:=qaA.of_grown hg (r1.off e_);refine⟨h.grown (h.f.app4 h0 h.c4 hg ho) hg hk e_ e_ e_ e_ e_ e_ (fun k hk=>⟨(r1.lt k hk).1,fun e=> ?_⟩),hk⟩;subst e;obtain⟨cur,fr,hr⟩:=r1.row k hk;exact absurd rfl (h.m.bx.row (fr:=fr) hr e_)
theorem GrK.app5(h:GrK B q o g n cap w x vL vA vN vb vh wr)(h0:0<x.feeds.length)(hg:wr.grownBy w2 vh.ownBlock)(ho:O1 Value.bool B 4 w2 vh x.feeds[0].hv):GrK B q o g n cap w x vL vA vN vb vh w2∧qaA LG5 wr w2:=by
 obtain⟨r1,r2⟩:=h.rows h0;have hk:qaA LG5 wr w2:=qaA.of_grown hg (r2.off e_);refine⟨h.grown (h.f.app5 h0 h.c5 hg ho) hg hk e_ e_ e_ e_ e_ e_ (fun k hk=>⟨(r2.lt k hk).1,fun e=> ?_⟩),hk⟩;subst e;obtain⟨cur,fr,hr⟩:=r2.row k hk;exact absurd rfl (h.m.bx.row (fr:=fr) hr e_)
theorem qsZ:(Tryz.prog.info? 9).map (fun i=>(i.zero,i.size,i.bytes))=some (some (.string ⟨#[]⟩),1,16):=by kernel_rfl
theorem qsb{o':Oper}{a:Act}{K:Act→World→Prop}{Q:Exit→Act→World→Prop}{t:ByteArray}{b:Nat}(h:GrK B q o g n cap w x vL vA vN vb vh wr)(h0:0<x.feeds.length)(hn:x.feeds[0].bl.length≤16)(hb:wr.heap[b]? =some (.cells #[.string t] 9 (0,0)))
 {s y:Operand} (ho:o'.op=.call {callee:=.builtin .append,args:= #[s,y],argTypes:= #[47,47]}) (hs:a.eval s=vb) (hy:a.eval y=.slice (some ⟨b,0,none⟩) 1 1)
 (hK:∀ A c w2,GrK B q o g n cap w x vL vA vN vb vh w2→GrB Value.string 9 B w.heap.size vb (x.feeds[0].bl++[t]) (.slice A (x.feeds[0].bl.length+1) c) w2→qaA LG4 wr w2→wr.heap.size≤w2.heap.size→K (a.put o'.dst (.slice A (x.feeds[0].bl.length+1) c)) w2):o'.wp Tryz.prog a wr K Q:=by
 obtain⟨i0,hi,hz0,hz1,hz2⟩:=info_parts qsZ;refine qui (fun _=>rfl) 47 9 16 i0 _ Tryz.underlying47 hi hz0 hz1 hz2 rfl a_ (h.rows h0).1 a_ h.m.bs ho hs hy (y:=t) (cell_of_row _ _ 0 _ _ _ hb) fun v' w2 h1 h2 h3 h4=> ?_;obtain⟨A,c,rfl⟩:=h1.sl;rw[List.length_append] at h1 h4 ⊢;obtain⟨k1,k2⟩:=h.app4 h0 h3 h2;refine hK A c w2 k1 ⟨h1,?_⟩ k2 h3.size;rcases h4 with h4|h4
 · exact .inl h4
 · exact .inr fun k hk=>by rw[show([t]:List ByteArray).length=1 from rfl] at h4;rw[h4] at hk;cases hk;exact h.s
theorem qsc{o':Oper}{a:Act}{K:Act→World→Prop}{Q:Exit→Act→World→Prop}{t:Bool}{b:Nat}(h:GrK B q o g n cap w x vL vA vN vb vh wr)(h0:0<x.feeds.length)(hn:x.feeds[0].hv.length≤16)(hb:wr.heap[b]? =some (.cells #[.bool t] 4 (0,0)))
 {s y:Operand} (ho:o'.op=.call {callee:=.builtin .append,args:= #[s,y],argTypes:= #[48,48]}) (hs:a.eval s=vh) (hy:a.eval y=.slice (some ⟨b,0,none⟩) 1 1)
 (hK:∀ A c w2,GrK B q o g n cap w x vL vA vN vb vh w2→GrB Value.bool 4 B w.heap.size vh (x.feeds[0].hv++[t]) (.slice A (x.feeds[0].hv.length+1) c) w2→qaA LG5 wr w2→wr.heap.size≤w2.heap.size→K (a.put o'.dst (.slice A (x.feeds[0].hv.length+1) c)) w2):o'.wp Tryz.prog a wr K Q:=by
 obtain⟨i0,hi,hz0,hz1,hz2⟩:=info_parts qeM;refine qui (fun _=>rfl) 48 4 1 i0 _ Tryz.underlying48 hi hz0 hz1 hz2 rfl a_ (h.rows h0).2 a_ h.m.bs ho hs hy (y:=t) (cell_of_row _ _ 0 _ _ _ hb) fun v' w2 h1 h2 h3 h4=> ?_;obtain⟨A,c,rfl⟩:=h1.sl;rw[List.length_append] at h1 h4 ⊢;obtain⟨k1,k2⟩:=h.app5 h0 h3 h2;refine hK A c w2 k1 ⟨h1,?_⟩ k2 h3.size;rcases h4 with h4|h4
 · exact .inl h4
 · exact .inr fun k hk=>by rw[show([t]:List Bool).length=1 from rfl] at h4;rw[h4] at hk;cases hk;exact h.s
theorem GrK.fin{ub uh:Value}{bl:List ByteArray}{hv:List Bool}(h:GrK B q o g n cap w x vL vA vN vb vh wr)(h0:0<x.feeds.length)(hb:GrB Value.string 9 B w.heap.size vb bl ub wr)(hh:GrB Value.bool 4 B w.heap.size vh hv uh wr):
 MI B q o {x with feeds:=x.feeds.set 0 ⟨x.feeds[0].pub,x.feeds[0].hd,bl,hv⟩} ((wr.setCell ⟨g,4,none⟩ ub).setCell ⟨g,5,none⟩ uh) (.slice (some ⟨g,0,none⟩) n cap) vL vA vN∧Below B w ((wr.setCell ⟨g,4,none⟩ ub).setCell ⟨g,5,none⟩ uh)∧
  ∀ i,i<o→((wr.setCell ⟨g,4,none⟩ ub).setCell ⟨g,5,none⟩ uh).cell? ⟨q,i,none⟩=w.cell? ⟨q,i,none⟩:=by
 obtain⟨h1,h2⟩:=h.f.put45 h0 h.c4 h.c5 hb.o hb.p hh.o hh.p h.s;obtain⟨_,F,h3,_⟩:=h.f;obtain⟨cur,hty⟩:=h3.row0 g rfl;have hqg:q≠g:=h.m.bx.row hty e_;refine⟨h.m.setF hqg hty (h1.mono (nr_ _) h2.size) h2,Below.grown h.b h2 h.m.bs (fun r hr=>by cases hr;exact h.gl.1),fun i hi=> ?_⟩;rw[World.cell?_of_block (h2.block q h.m.lt (fun e=>by cases e;exact hqg rfl))];exact h.k i hi
end
end Go.Proofs.YtekaaekpdebloaaGreatDoor
namespace Go.Proofs.YtekaaekpdebloaaGreatDoor
open Go

section
variable {P:Program} {md:Region.Mode} {ops:Array Oper} {Q:Exit→Act→World→Prop} {S:World→Prop} {b:Nat→Bool}
def qrP(P:Program)(md:Region.Mode)(ops:Array Oper)(Q:Exit→Act→World→Prop)(S:World→Prop)(b:Nat→Bool):Nat→Array Bool→Act→World→Prop
 |0,listed,a,w=>Region.ready md ops listed=[]∧Q .normal a w
 |fuel+1,listed,a,w=>
  (Region.ready md ops listed=[]→Q .normal a w)∧
  ∀ i ∈ Region.ready md ops listed,wpOp P ops Q i (fun a' w'=>(b i=true→S w')∧qrP P md ops Q S b fuel (listed.setIfInBounds i true) a' w') a w
theorem qsr:∀ (fuel:Nat) (listed:Array Bool) (a:Act) (w:World),qrP P md ops Q S b fuel listed a w→wpAny P md ops Q fuel listed a w
 |0,_,_,_,h=>h
 |fuel+1,_,_,_,h=>⟨h.1,fun i hi=>wpOp_mono (fun a' w' h'=>qsr fuel _ a' w' h'.2) (h.2 i hi)⟩
structure qsQ (md:Region.Mode) (ops:Array Oper) (listed:Array Bool):Prop where
 closed:∀ j oj,ops[j]? =some oj→listed.getD j false=true→∀ e ∈ oj.after,Region.binds md e=true→listed.getD e.on false=true
theorem qsQ.set{i:Nat}{listed:Array Bool}(inv:qsQ md ops listed)(hi:i ∈ Region.ready md ops listed):qsQ md ops (listed.setIfInBounds i true):=by
 obtain⟨_,oi,hoi,hall⟩:=mem_ready.1 hi;refine⟨fun j oj hj hl e he hb=> ?_⟩;by_cases hij:i=j
 · subst hij;have:oj=oi:=Option.some.inj (hj.symm.trans hoi);subst this;exact getD_set_true (hall e he hb)
 · rw[Go.getD_set_ne false hij] at hl;exact getD_set_true (inv.closed j oj hj hl e he hb)
def qsd(md:Region.Mode)(ops:Array Oper):Nat→Nat→Nat→Bool
 |0,_,_=>false
 |f+1,j,i=>Region.waitsFor md ops j i||(List.range ops.size).any fun k=>Region.waitsFor md ops j k&&qsd md ops f k i
theorem qtf{listed:Array Bool}{i:Nat}(inv:qsQ md ops listed)(hun:listed.getD i false=false):∀ (f j:Nat),qsd md ops f j i=true→listed.getD j false=false∧j ∉ Region.ready md ops listed
 |0,_,h=>by cases h
 |f+1,j,h=>by
  have key:∀ k,Region.waitsFor md ops j k=true→listed.getD k false=false→listed.getD j false=false∧j ∉ Region.ready md ops listed:=fun k hk hku=>by
    obtain⟨oj,hoj,e,he,hb,hon⟩:=Region.waitsFor_spec hk;constructor
    · cases hl:listed.getD j false
      · rfl
      · have:=inv.closed j oj hoj hl e he hb;rw[hon,hku] at this;cases this
    · intro hr;obtain⟨_,oj',hoj',hall⟩:=mem_ready.1 hr;have:oj'=oj:=Option.some.inj (hoj'.symm.trans hoj);subst this;have:=hall e he hb;rw[hon,hku] at this;cases this
  unfold qsd at h;rcases Bool.or_eq_true _ _ ▸ h with h1|h1
  · exact key i h1 hun
  · obtain⟨k,_,h2⟩:=List.any_eq_true.1 h1;rw[Bool.and_eq_true] at h2;exact key k h2.1 (qtf inv hun f k h2.2).1
def quA(md:Region.Mode)(ops:Array Oper)(b:Nat→Bool)(listed:Array Bool)(i:Nat):Bool:=
 (List.range ops.size).all fun j=>b j||listed.getD j false||qsd md ops 8 j i
theorem qtr{listed:Array Bool}{i:Nat}(h:quA md ops b listed i=true)(j:Nat)(hj:j<ops.size):b j=true∨listed.getD j false=true∨qsd md ops 8 j i=true:=by
 have:=List.all_eq_true.1 h j (List.mem_range.2 hj);rw[Bool.or_eq_true,Bool.or_eq_true] at this;rcases this with(h1|h1)|h1
 · exact .inl h1
 · exact .inr (.inl h1)
 · exact .inr (.inr h1)
theorem qsN{i:Nat}{oi:Oper}{v:Value}(hi:ops[i]? =some oi)(hsel:∀ (j:Nat) (o:Oper) cs b,ops[j]? =some o→o.op≠.select cs b)
 (hQ:∀ c a w,Q (.panic c) (a.put oi.dst v) w→Q (.panic c) a w):
 ∀ (fuel:Nat) (listed:Array Bool) (a:Act) (w:World),qsQ md ops listed→(∀ j,j<ops.size→b j=true∨listed.getD j false=true∨qsd md ops 8 j i=true)→
  (∀ j oj,ops[j]? =some oj→j≠i→listed.getD j true=false→(∀ e ∈ oj.after,Region.binds md e=true→e.on≠i)→oi.apart ops oj=true)→
  i ∈ Region.ready md ops listed→YieldsIf P ops S oi v a→S w→
  qrP P md ops Q S b fuel (listed.setIfInBounds i true) (a.put oi.dst v) w→qrP P md ops Q S b (fuel+1) listed a w:=by
 intro fuel;induction fuel with
 |zero=>
  intro listed a w inv _ _ hr hy hS H;refine⟨fun h=>aA_,fun j hj=> ?_⟩;by_cases hji:j=i
  · subst hji;exact hy.wpOp hi hS ⟨fun _=>hS,H⟩
  · have:=ready_mono hj hji;rw[H.1] at this;cases this
 |succ fuel ih=>
  intro listed a w inv hlate hfree hr hy hS H;have hun:=(mem_ready.1 hr).1;refine⟨fun h=>aA_,fun j hj=> ?_⟩;by_cases hji:j=i
  · subst hji;exact hy.wpOp hi hS ⟨fun _=>hS,H⟩
  · have h1:=H.2 j (ready_mono hj hji);obtain⟨hjun,oj,hoj,hall⟩:=mem_ready.1 hj;have hjs:j<ops.size:=(Array.getElem?_eq_some_iff.1 hoj).1;have hbj:b j=true:=by
      rcases hlate j hjs with h|h|h
      · exact h
      · rw[getD_both hjun] at h;cases h
      · exact absurd hj (qtf inv (getD_both hun) 8 j h).2
    have hnot:∀ e ∈ oj.after,Region.binds md e=true→e.on≠i:=fun e he hb heq=>by
      have h1:=hall e he hb;rw[heq,getD_both hun] at h1;cases h1
    have h2:=wpOp_putIf hoj (hfree j oj hoj hji hjun hnot) (fun cs b=>hsel i oi cs b hi) (fun cs b=>hsel j oj cs b hoj) hQ hy h1;have hfree':∀ k ok,ops[k]? =some ok→k≠i→(listed.setIfInBounds j true).getD k true=false→
      (∀ e ∈ ok.after,Region.binds md e=true→e.on≠i)→oi.apart ops ok=true:=fun k ok hk hki hun hno=>by
      refine hfree k ok hk hki ?_ hno;by_cases hjk:j=k
      · subst hjk;exact hjun
      · rw[Go.getD_set_ne true hjk] at hun;exact hun
    have hlate':∀ k,k<ops.size→b k=true∨(listed.setIfInBounds j true).getD k false=true∨qsd md ops 8 k i=true:=fun k hk=>by
      rcases hlate k hk with h|h|h
      · exact .inl h
      · exact .inr (.inl (getD_set_true h))
      · exact .inr (.inr h)
    refine wpOp_mono (fun a' w' h3=>⟨h3.2.1,ih (listed.setIfInBounds j true) a' w' (inv.set hj) hlate' hfree' (ready_mono hr (Ne.symm hji)) h3.1 (h3.2.1 hbj) ?_⟩) h2;rw[Array.setIfInBounds_comm _ _ hji];exact h3.2.2
theorem qrD{i:Nat}{oi:Oper}{v:Value}{fuel:Nat}{listed:Array Bool}{a:Act}{w:World}(hinv:qsQ md ops listed)(hi:ops[i]? =some oi)
 (hs:(Region.noSelect ops&&quA md ops b listed i&&Region.free md ops listed i&&(Region.ready md ops listed).contains i)=true)
 (hQ:∀ c a w,Q (.panic c) (a.put oi.dst v) w→Q (.panic c) a w) (hy:YieldsIf P ops S oi v a) (hS:S w)
 (h:qsQ md ops (listed.setIfInBounds i true)→qrP P md ops Q S b fuel (listed.setIfInBounds i true) (a.put oi.dst v) w):qrP P md ops Q S b (fuel+1) listed a w:=by
 simp only[Bool.and_eq_true] at hs;obtain⟨⟨⟨h1,h2⟩,h6⟩,h7⟩:=hs;have hr:i ∈ Region.ready md ops listed:=by simpa using h7
 exact qsN hi (Region.noSelect_spec h1) hQ fuel listed a w hinv (qtr h2) (Region.free_spec hi h6) hr hy hS (h (hinv.set hr))
theorem qsO{i:Nat}{oi:Oper}{v:Value}(hi:ops[i]? =some oi)(hsel:∀ (j:Nat) (o:Oper) cs b,ops[j]? =some o→o.op≠.select cs b)(hbi:b i=false)
 (hQ:∀ c a w,Q (.panic c) (a.put oi.dst v) w→Q (.panic c) a w):
 ∀ (fuel:Nat) (listed:Array Bool) (a:Act) (w:World),
  (∀ j oj,ops[j]? =some oj→j≠i→listed.getD j true=false→(∀ e ∈ oj.after,Region.binds md e=true→e.on≠i)→oi.apart ops oj=true)→
  i ∈ Region.ready md ops listed→YieldsIf P ops (fun _=>True) oi v a→
  qrP P md ops Q S b fuel (listed.setIfInBounds i true) (a.put oi.dst v) w→qrP P md ops Q S b (fuel+1) listed a w:=by
 intro fuel;induction fuel with
 |zero=>
  intro listed a w _ hr hy H;refine⟨fun h=>aA_,fun j hj=> ?_⟩;by_cases hji:j=i
  · subst hji;exact hy.wpOp hi trivial ⟨fun h=>(by rw[hbi] at h;cases h),H⟩
  · have:=ready_mono hj hji;rw[H.1] at this;cases this
 |succ fuel ih=>
  intro listed a w hfree hr hy H;have hun:=(mem_ready.1 hr).1;refine⟨fun h=>aA_,fun j hj=> ?_⟩;by_cases hji:j=i
  · subst hji;exact hy.wpOp hi trivial ⟨fun h=>(by rw[hbi] at h;cases h),H⟩
  · have h1:=H.2 j (ready_mono hj hji);obtain⟨hjun,oj,hoj,hall⟩:=mem_ready.1 hj;have hnot:∀ e ∈ oj.after,Region.binds md e=true→e.on≠i:=fun e he hb heq=>by
      have h1:=hall e he hb;rw[heq,getD_both hun] at h1;cases h1
    have h2:=wpOp_putIf hoj (hfree j oj hoj hji hjun hnot) (fun cs b=>hsel i oi cs b hi) (fun cs b=>hsel j oj cs b hoj) hQ hy h1;have hfree':∀ k ok,ops[k]? =some ok→k≠i→(listed.setIfInBounds j true).getD k true=false→
      (∀ e ∈ ok.after,Region.binds md e=true→e.on≠i)→oi.apart ops ok=true:=fun k ok hk hki hun hno=>by
      refine hfree k ok hk hki ?_ hno;by_cases hjk:j=k
      · subst hjk;exact hjun
      · rw[Go.getD_set_ne true hjk] at hun;exact hun
    refine wpOp_mono (fun a' w' h3=>⟨h3.2.1,ih (listed.setIfInBounds j true) a' w' hfree' (ready_mono hr (Ne.symm hji)) h3.1 ?_⟩) h2;rw[Array.setIfInBounds_comm _ _ hji];exact h3.2.2
theorem qrF{i:Nat}{oi:Oper}{v:Value}{fuel:Nat}{listed:Array Bool}{a:Act}{w:World}(hinv:qsQ md ops listed)(hi:ops[i]? =some oi)
 (hs:(Region.noSelect ops&& !b i&&Region.free md ops listed i&&(Region.ready md ops listed).contains i)=true)
 (hQ:∀ c a w,Q (.panic c) (a.put oi.dst v) w→Q (.panic c) a w) (hy:YieldsIf P ops (fun _=>True) oi v a)
 (h:qsQ md ops (listed.setIfInBounds i true)→qrP P md ops Q S b fuel (listed.setIfInBounds i true) (a.put oi.dst v) w):qrP P md ops Q S b (fuel+1) listed a w:=by
 simp only[Bool.and_eq_true,Bool.not_eq_true'] at hs;obtain⟨⟨⟨h1,h2⟩,h6⟩,h7⟩:=hs;have hr:i ∈ Region.ready md ops listed:=by simpa using h7
 exact qsO hi (Region.noSelect_spec h1) h2 hQ fuel listed a w (Region.free_spec hi h6) hr hy (h (hinv.set hr))
def qrG(P:Program)(md:Region.Mode)(ops:Array Oper)(Q:Exit→Act→World→Prop)(S:World→Prop)(b:Nat→Bool)(fuel:Nat)(listed:Array Bool)(a:Act)(w:World)(rs:List Nat):Prop:=
 ∀ i ∈ rs,wpOp P ops Q i (fun a' w'=>(b i=true→S w')∧qrP P md ops Q S b fuel (listed.setIfInBounds i true) a' w') a w
theorem qrG.nil{fuel:Nat}{listed:Array Bool}{a:Act}{w:World}:qrG P md ops Q S b fuel listed a w []:=fun _ h=>by cases h
theorem qrG.cons{fuel:Nat}{listed:Array Bool}{a:Act}{w:World}{i:Nat}{o:Oper}{rs:List Nat}(hinv:qsQ md ops listed)(ho:ops[i]? =some o)(hm:(Region.ready md ops listed).contains i=true)
 (h:∀ K':Act→World→Prop,Shut (∀ a w,S w→(qsQ md ops (listed.setIfInBounds i true)→qrP P md ops Q S b fuel (listed.setIfInBounds i true) a w)→K' a w)→if Region.wanted o (yielded ops a.tmps)=true then Oper.wp P o a w K' Q else K' (a.put o.dst undef) w)
 (hs:qrG P md ops Q S b fuel listed a w rs):qrG P md ops Q S b fuel listed a w (i::rs):=fun j hj=>by
 rcases List.mem_cons.1 hj with rfl|hj
 · exact wpOp_step ho (fun K' hK=>h K' (fun a w hS hW=>hK a w ⟨fun _=>hS,hW (hinv.set (by simpa using hm))⟩))
 · exact hs j hj
theorem qrN{rs:List Nat}{fuel:Nat}{listed:Array Bool}{a:Act}{w:World}(hr:Region.ready md ops listed=rs)(hne:rs≠[])
 (h:qrG P md ops Q S b fuel listed a w rs):qrP P md ops Q S b (fuel+1) listed a w:=
 ⟨fun h0=>absurd (hr.symm.trans h0) hne,fun i hi=>h i (by rw[←hr];exact hi)⟩
theorem qrQ{i:Nat}{o:Oper}{fuel:Nat}{listed:Array Bool}{a:Act}{w:World}(hinv:qsQ md ops listed)(ho:ops[i]? =some o)(hr:Region.ready md ops listed=[i])
 (h:∀ K':Act→World→Prop,Shut (∀ a w,S w→(qsQ md ops (listed.setIfInBounds i true)→qrP P md ops Q S b fuel (listed.setIfInBounds i true) a w)→K' a w)→if Region.wanted o (yielded ops a.tmps)=true then Oper.wp P o a w K' Q else K' (a.put o.dst undef) w):
 qrP P md ops Q S b (fuel+1) listed a w:=
 qrN hr k_ (qrG.cons hinv ho (by rw[hr];simp) h .nil)
theorem qrK{i:Nat}{o:Oper}{fuel:Nat}{listed:Array Bool}{a:Act}{w:World}(hinv:qsQ md ops listed)(ho:ops[i]? =some o)(hr:Region.ready md ops listed=[i])(hbi:b i=false)
 (h:∀ K':Act→World→Prop,Shut (∀ a w,(qsQ md ops (listed.setIfInBounds i true)→qrP P md ops Q S b fuel (listed.setIfInBounds i true) a w)→K' a w)→if Region.wanted o (yielded ops a.tmps)=true then Oper.wp P o a w K' Q else K' (a.put o.dst undef) w):
 qrP P md ops Q S b (fuel+1) listed a w:=by
 refine⟨fun h0=>(by rw[h0] at hr;cases hr),fun j hj=> ?_⟩;have hm:=hj;rw[hr] at hj;obtain rfl:j=i:=ae_;exact wpOp_step ho (fun K' hK=>h K' (fun a w hW=>hK a w ⟨fun hb=>(by rw[hbi] at hb;cases hb),hW (hinv.set hm)⟩))
theorem qrM{fuel:Nat}{listed:Array Bool}{a:Act}{w:World}(hr:Region.ready md ops listed=[])(h:Q .normal a w):qrP P md ops Q S b fuel listed a w:=by
 cases fuel with
 |zero=>exact⟨hr,h⟩
 |succ f=>exact⟨fun _=>h,by rw[hr];simp⟩
theorem qrO{id:Nat}{a:Act}{w:World}(S:World→Prop)(b:Nat→Bool)(hm:P.follows .mixedOrders=true)(hS:S w.drew)
 (h:S w.drew→qsQ .any ops (Array.replicate ops.size false)→qrP P .any ops Q S b ops.size (Array.replicate ops.size false) a w.drew):(Code.region id ops true).wp P Q a w:=
 wp_region_any hm (qsr _ _ _ _ (h hS ⟨fun j oj _ hl=>(by rw[getD_replicate_false] at hl;cases hl)⟩))
end
section
variable {P:Program} {md:Region.Mode} {ops:Array Oper} {Q:Exit→Act→World→Prop} {S:World→Prop} {b:Nat→Bool}
def TkU(P:Program) (md:Region.Mode) (ops:Array Oper) (Q:Exit→Act→World→Prop) (S:World→Prop) (b:Nat→Bool) (f:Nat) (l:Array Bool) (a:Act) (w:World):Prop:=qsQ md ops l→S w→qrP P md ops Q S b f l a w
theorem gU_{f:Nat} {l:Array Bool} {a:Act} {w:World} (h:TkU P md ops Q S b f l a w) (x:qsQ md ops l) (y:S w):qrP P md ops Q S b f l a w:=h x y
theorem eU_{f:Nat} {l:Array Bool} {a:Act} {w:World} (h:qsQ md ops l→qrP P md ops Q S b f l a w):TkU P md ops Q S b f l a w:=fun x _=>h x
theorem tU_(i:Nat) {oi:Oper} {v:Value} {f:Nat} {l:Array Bool} {a:Act} {w:World} (h:TkU P md ops Q S b f (l.setIfInBounds i true) (a.put oi.dst v) w) (hi:ops[i]?=some oi:=by exact rfl) (hs:(Region.noSelect ops&&quA md ops b l i&&Region.free md ops l i&&(Region.ready md ops l).contains i)=true:=by kernel_rfl) (hQ:∀ c a w,Q (.panic c) (a.put oi.dst v) w→Q (.panic c) a w:=by exact fun _ _ _ h=>h) (hy:YieldsIf P ops S oi v a:=by refine Or.inl ⟨p_,?_⟩;intro w_ hSw;(try dsimp only at hSw);go_simp;try with_reducible rfl):TkU P md ops Q S b (f+1) l a w:=fun x y=>qrD x hi hs hQ hy y fun x=>h x y
theorem tF_(i:Nat) {oi:Oper} {v:Value} {f:Nat} {l:Array Bool} {a:Act} {w:World} (h:TkU P md ops Q S b f (l.setIfInBounds i true) (a.put oi.dst v) w) (hi:ops[i]?=some oi:=by exact rfl) (hs:(Region.noSelect ops&& !b i&&Region.free md ops l i&&(Region.ready md ops l).contains i)=true:=by kernel_rfl) (hQ:∀ c a w,Q (.panic c) (a.put oi.dst v) w→Q (.panic c) a w:=by exact fun _ _ _ h=>h) (hy:YieldsIf P ops (fun _=>True) oi v a:=by refine Or.inl ⟨p_,?_⟩;intro w_ _;go_simp;try with_reducible rfl):TkU P md ops Q S b (f+1) l a w:=fun x y=>qrF x hi hs hQ hy fun x=>h x y
def TkF(P:Program) (md:Region.Mode) (ops:Array Oper) (Q:Exit→Act→World→Prop) (S:World→Prop) (b:Nat→Bool) (f:Nat) (l:Array Bool) (a:Act) (w:World):Prop:=qsQ md ops l→qrP P md ops Q S b f l a w
theorem gF_{f:Nat} {l:Array Bool} {a:Act} {w:World} (h:TkF P md ops Q S b f l a w) (x:qsQ md ops l):qrP P md ops Q S b f l a w:=h x
theorem eF_{f:Nat} {l:Array Bool} {a:Act} {w:World} (h:qsQ md ops l→qrP P md ops Q S b f l a w):TkF P md ops Q S b f l a w:=h
theorem tG_(i:Nat) {oi:Oper} {v:Value} {f:Nat} {l:Array Bool} {a:Act} {w:World} (h:TkF P md ops Q S b f (l.setIfInBounds i true) (a.put oi.dst v) w) (hi:ops[i]?=some oi:=by exact rfl) (hs:(Region.noSelect ops&& !b i&&Region.free md ops l i&&(Region.ready md ops l).contains i)=true:=by kernel_rfl) (hQ:∀ c a w,Q (.panic c) (a.put oi.dst v) w→Q (.panic c) a w:=by exact fun _ _ _ h=>h) (hy:YieldsIf P ops (fun _=>True) oi v a:=by refine Or.inl ⟨p_,?_⟩;intro w_ _;go_simp;try with_reducible rfl):TkF P md ops Q S b (f+1) l a w:=fun x=>qrF x hi hs hQ hy h
end
end Go.Proofs.YtekaaekpdebloaaGreatDoor
namespace Go.Proofs.YtekaaekpdebloaaGreatDoor
open Go.RowKit Go.Shelf
attribute [local go_sem ↓] Go.wp_at_zero Go.wp_at_succ

theorem qtg{x:Wd}{t:ByteArray}(h:8<t.size∨16≤x.f0.bl.length):qd1 x t=x:=by unfold qd1;rw[if_pos h]
theorem qtW{x:Wd}{t:ByteArray}(h:¬ (8<t.size∨16≤x.f0.bl.length)):qd1 x t={x with feeds:=x.feeds.set 0 (x.f0.more x.sec t)}:=by unfold qd1;rw[if_neg h]
theorem quz(x:Wd)(t:ByteArray)(q o B:Nat)(vF vL vA vN:Value)(w:World)(h:MI B q o x w vF vL vA vN)(hv:WV x)(ht:t.size≤maxLen):
 Calls Tryz.prog 108 #[.pointer (some ⟨q,o,none⟩),.string t] w (qrH B q o w (qd1 x t)):=by
 have hn6:x.feeds.length≤6:=hv.wi.n6;have h0:0<x.feeds.length:=by have:=hv.wi.n1;omega
 have h0':(0:Int)<(x.feeds.length:Int):=a_;obtain⟨g,cF,rfl,hB,hgl,hqg,cur,hh⟩:=h.form h0;have HM:=hI_ h;have HTS:Hid (t.size≤9223372036854775807):=hI_ (by unfold maxLen at ht;omega);have htm:=HTS.out;have hxf:x.f0=x.feeds[0]:=hv.f0_;obtain⟨l1,l2,l3⟩:=qax hv.v0;have hsz:∀ s ∈ x.f0.bl,s.size≤8:=qbH hv.v0;obtain⟨_,_,jb,jh,hA,_,g0,g1,g2,g3,g4,g5,hFj⟩:=h.p.F.r.at_ h0;cases hA;obtain⟨f,HF⟩:=nm_ (x.feeds[0]);rw[HF.out] at g0 g1 g2 g3 hFj hxf;rw[hxf] at l1 l2 l3 hsz;obtain⟨jA,jc,rfl⟩:=hFj.bl.sl';obtain⟨jH,jd,rfl⟩:=hFj.hv.sl';have HXF:=hI_ hxf;have HSZ:=hI_ hsz;have HLB:Hid (x.feeds[0].bl.length≤16):=hI_ (by rw[HF.out];omega);have HLH:Hid (x.feeds[0].hv.length≤16):=hI_ (by rw[HF.out];omega);have HL12:=hI_ l1;have HL2:=hI_ l2;have t2:=h.bx.c2;have t0:=h.bx.c0;simp only[Nat.zero_mul,Nat.zero_add] at g0 g1 g2 g3 g4 g5;clear hh cur hv hsz hFj hxf l1 l2 l3 ht;by_cases h8:8<t.size
 · have h8':(8:Int)<(t.size:Int):=a_;have HR:=hI_ (qtg (x:=x) (t:=t) (.inl h8));clear h8;go_enter Tryz.func108,Tryz.ntmps108
   go_wp2_with fail
   refine bodyPost_end (results_none Tryz.results108 _ _ _) rfl ?_;rw[HR.out];exact qrH.same HM.out (bR_ _ _)
 have h8':¬ (8:Int)<(t.size:Int):=a_;by_cases h16:f.bl.length=16
 · have h16':(f.bl.length:Int)=16:=a_;have HR:=hI_ (qtg (x:=x) (t:=t) (.inr (by rw[HXF.out];omega)));clear h8 h16;go_enter Tryz.func108,Tryz.ntmps108
   go_wp2_with fail
   refine bodyPost_end (results_none Tryz.results108 _ _ _) rfl ?_;rw[HR.out];exact qrH.same HM.out (bR_ _ _)
 have h16':¬ (f.bl.length:Int)=16:=a_;have HR:=hI_ (qtW (x:=x) (t:=t) (by rw[HXF.out];have:=HL2.out;omega));rw[HXF.out] at HR;clear h8 h16;go_enter Tryz.func108,Tryz.ntmps108
 go_upto_region 2 with fail
 go_cut [] (fun wx=>MI B q o {x with feeds:=x.feeds.set 0 ⟨f.pub,f.hd,f.bl++[t],f.hv++[true]⟩} wx (.slice (some ⟨g,0,none⟩) x.feeds.length cF) vL vA vN∧Below B w wx∧∀ i,i<o→wx.cell? ⟨q,i,none⟩=w.cell? ⟨q,i,none⟩)
 case first=>
  have d4:w.drew.cell? ⟨g,4,none⟩=_:=g4;have d5:w.drew.cell? ⟨g,5,none⟩=_:=g5;have HK0:Hid (GrK B q o g x.feeds.length cF w x vL vA vN (.slice jA f.bl.length jc) (.slice jH f.hv.length jd) w.drew):=hI_ ⟨HM.out.below (qac (bR_ _ _)),HM.out.p.F.below (qac (bR_ _ _)),(qac (bR_ w.heap.size w)).mono HM.out.bs,fun _ _=>rfl,nr_ _,d4,d5⟩;obtain⟨W0,hW0⟩:∃ W,w.drew=W:=⟨_,rfl⟩
  refine qrO (fun w'=>w'.cell? ⟨g,4,none⟩=some (.slice jA f.bl.length jc)∧w'.cell? ⟨g,5,none⟩=some (.slice jH f.hv.length jd)) (fun i=>decide (i≠1)&&decide (i<15)) d_ ⟨d4,d5⟩ (fun hS hI=> ?_);rw[hW0] at HK0 hS ⊢;clear hW0 d4 d5 g0 g1 g2 g3 g4 g5 t2 t0;refine gU_ ?_ hI hS;clear hI;refine tF_ 1 ?_;refine tU_ 0 ?_;refine tU_ 2 ?_;refine tU_ 3 ?_;refine tU_ 4 ?_;refine tU_ 5 ?_;refine tU_ 6 ?_;refine tU_ 9 ?_;refine tU_ 10 ?_;refine tU_ 11 ?_;refine tU_ 12 ?_;refine eU_ fun hI=>?_;refine qrN (rs:=[7,13]) d_ k_ (qrG.cons hI rfl d_ (fun K1 hK1=> ?_) (qrG.cons hI rfl d_ (fun K1 hK1=> ?_) qrG.nil))
  · go_simp;have HB1:Hid ((W0.alloc (.cells #[.string t] 9)).heap[W0.heap.size]? =some (.cells #[.string t] 9 (0,0))):=hI_ (heap_alloc_new _ _);have HK1:=hI_ (HK0.out.below (qab (bR_ W0.heap.size W0) (.cells #[.string t] 9)));obtain⟨W1_7,hW1⟩:∃ W,W0.alloc (.cells #[.string t] 9)=W:=⟨_,rfl⟩
    obtain⟨k1,hk1⟩:∃ k,W0.heap.size=k:=⟨_,rfl⟩
    rw[hW1,hk1] at HB1;rw[hW1] at HK1;rw[hW1,hk1];clear hW1 hk1;refine hK1.out _ _ ⟨HK1.out.c4,HK1.out.c5⟩ (fun hI=> ?_);clear hS;have hS:_∧_:=⟨HK1.out.c4,HK1.out.c5⟩
    refine qrN (rs:=[8,13]) d_ k_ (qrG.cons hI rfl d_ (fun K2 hK2=> ?_) (qrG.cons hI rfl d_ (fun K2 hK2=> ?_) qrG.nil))
    · refine qa9 p_ ?_;refine qsb HK1.out h0 HLB.out HB1.out rfl rfl rfl (fun A2 c2 W2_8 hk2 hg2 hp2 hs2=> ?_);have HK2:=hI_ hk2;have HG2:=hI_ hg2;clear hk2 hg2 hp2 hs2;refine hK2.out _ _ ⟨HK2.out.c4,HK2.out.c5⟩ (fun hI=> ?_);clear hS;have hS:_∧_:=⟨HK2.out.c4,HK2.out.c5⟩
      refine qrN (rs:=[13]) d_ k_ (qrG.cons hI rfl d_ (fun K3 hK3=> ?_) qrG.nil);go_simp;have HB3:Hid ((W2_8.alloc (.cells #[.bool true] 4)).heap[W2_8.heap.size]? =some (.cells #[.bool true] 4 (0,0))):=hI_ (heap_alloc_new _ _);have HK3:=hI_ (HK2.out.below (qab (bR_ W2_8.heap.size W2_8) (.cells #[.bool true] 4)));have HG2_3:=hI_ (HG2.out.keep (T:=LT2) (qaA.of_below (qab (bR_ W2_8.heap.size W2_8) (.cells #[.bool true] 4))) e_);obtain⟨W3_13,hW3⟩:∃ W,W2_8.alloc (.cells #[.bool true] 4)=W:=⟨_,rfl⟩
      obtain⟨k3,hk3⟩:∃ k,W2_8.heap.size=k:=⟨_,rfl⟩
      rw[hW3,hk3] at HB3;rw[hW3] at HK3 HG2_3;rw[hW3,hk3];clear hW3 hk3;refine hK3.out _ _ ⟨HK3.out.c4,HK3.out.c5⟩ (fun hI=> ?_);clear hS;have hS:_∧_:=⟨HK3.out.c4,HK3.out.c5⟩
      refine qrN (rs:=[14]) d_ k_ (qrG.cons hI rfl d_ (fun K4 hK4=> ?_) qrG.nil);refine qa9 p_ ?_;refine qsc HK3.out h0 HLH.out HB3.out rfl rfl rfl (fun A4 c4 W4_14 hk4 hg4 hp4 hs4=> ?_);have HK4:=hI_ hk4;have HG4:=hI_ hg4;have HG2_3_4:=hI_ (HG2_3.out.keep hp4 e_);clear hk4 hg4 hp4 hs4;refine hK4.out _ _ ⟨HK4.out.c4,HK4.out.c5⟩ (fun hI=> ?_);clear hS;have hS:_∧_:=⟨HK4.out.c4,HK4.out.c5⟩
      refine gF_ ?_ hI;clear hI;refine tG_ 15 ?_;refine tG_ 16 ?_;refine eF_ fun hI=>?_;obtain⟨e1,e2,e3⟩:=HK4.out.fin h0 HG2_3_4.out HG4.out;have fz4:=HK4.out.fz 4;have fz5:=HK4.out.fz 5;refine qrK (i:=17) hI rfl d_ rfl (fun Ka hKa=> ?_);go_simp;refine hKa.out _ _ (fun hI=> ?_);refine gF_ ?_ hI;clear hI;refine tG_ 18 ?_;refine tG_ 19 ?_;refine eF_ fun hI=>?_;refine qrK (i:=20) hI rfl d_ rfl (fun Kb hKb=> ?_);go_simp;refine hKb.out _ _ (fun hI=> ?_);refine qrM d_ ?_;go_wp2_with fail
      go_meet;simp only[HF.out] at e1 e2 e3 ⊢;exact⟨e1,e2,e3⟩
    · go_simp;have HB2:Hid ((W1_7.alloc (.cells #[.bool true] 4)).heap[W1_7.heap.size]? =some (.cells #[.bool true] 4 (0,0))):=hI_ (heap_alloc_new _ _);have HK2:=hI_ (HK1.out.below (qab (bR_ W1_7.heap.size W1_7) (.cells #[.bool true] 4)));have HB1_2:=hI_ (qau (o:=.cells #[.bool true] 4) HB1.out);obtain⟨W2_13,hW2⟩:∃ W,W1_7.alloc (.cells #[.bool true] 4)=W:=⟨_,rfl⟩
      obtain⟨k2,hk2⟩:∃ k,W1_7.heap.size=k:=⟨_,rfl⟩
      rw[hW2,hk2] at HB2;rw[hW2] at HK2 HB1_2;rw[hW2,hk2];clear hW2 hk2;refine hK2.out _ _ ⟨HK2.out.c4,HK2.out.c5⟩ (fun hI=> ?_);clear hS;have hS:_∧_:=⟨HK2.out.c4,HK2.out.c5⟩
      refine qrN (rs:=[8]) d_ k_ (qrG.cons hI rfl d_ (fun K3 hK3=> ?_) qrG.nil);refine qa9 p_ ?_;refine qsb HK2.out h0 HLB.out HB1_2.out rfl rfl rfl (fun A3 c3 W3_8 hk3 hg3 hp3 hs3=> ?_);have HK3:=hI_ hk3;have HG3:=hI_ hg3;have HB2_3:=hI_ ((hp3.2 _ _ _ _ HB2.out e_).trans HB2.out);clear hk3 hg3 hp3 hs3;refine hK3.out _ _ ⟨HK3.out.c4,HK3.out.c5⟩ (fun hI=> ?_);clear hS;have hS:_∧_:=⟨HK3.out.c4,HK3.out.c5⟩
      refine qrN (rs:=[14]) d_ k_ (qrG.cons hI rfl d_ (fun K4 hK4=> ?_) qrG.nil);refine qa9 p_ ?_;refine qsc HK3.out h0 HLH.out HB2_3.out rfl rfl rfl (fun A4 c4 W4_14 hk4 hg4 hp4 hs4=> ?_);have HK4:=hI_ hk4;have HG4:=hI_ hg4;have HG3_4:=hI_ (HG3.out.keep hp4 e_);clear hk4 hg4 hp4 hs4;refine hK4.out _ _ ⟨HK4.out.c4,HK4.out.c5⟩ (fun hI=> ?_);clear hS;have hS:_∧_:=⟨HK4.out.c4,HK4.out.c5⟩
      refine gF_ ?_ hI;clear hI;refine tG_ 15 ?_;refine tG_ 16 ?_;refine eF_ fun hI=>?_;obtain⟨e1,e2,e3⟩:=HK4.out.fin h0 HG3_4.out HG4.out;have fz4:=HK4.out.fz 4;have fz5:=HK4.out.fz 5;refine qrK (i:=17) hI rfl d_ rfl (fun Ka hKa=> ?_);go_simp;refine hKa.out _ _ (fun hI=> ?_);refine gF_ ?_ hI;clear hI;refine tG_ 18 ?_;refine tG_ 19 ?_;refine eF_ fun hI=>?_;refine qrK (i:=20) hI rfl d_ rfl (fun Kb hKb=> ?_);go_simp;refine hKb.out _ _ (fun hI=> ?_);refine qrM d_ ?_;go_wp2_with fail
      go_meet;simp only[HF.out] at e1 e2 e3 ⊢;exact⟨e1,e2,e3⟩
  · go_simp;have HB1:Hid ((W0.alloc (.cells #[.bool true] 4)).heap[W0.heap.size]? =some (.cells #[.bool true] 4 (0,0))):=hI_ (heap_alloc_new _ _);have HK1:=hI_ (HK0.out.below (qab (bR_ W0.heap.size W0) (.cells #[.bool true] 4)));obtain⟨W1_13,hW1⟩:∃ W,W0.alloc (.cells #[.bool true] 4)=W:=⟨_,rfl⟩
    obtain⟨k1,hk1⟩:∃ k,W0.heap.size=k:=⟨_,rfl⟩
    rw[hW1,hk1] at HB1;rw[hW1] at HK1;rw[hW1,hk1];clear hW1 hk1;refine hK1.out _ _ ⟨HK1.out.c4,HK1.out.c5⟩ (fun hI=> ?_);clear hS;have hS:_∧_:=⟨HK1.out.c4,HK1.out.c5⟩
    refine qrN (rs:=[7]) d_ k_ (qrG.cons hI rfl d_ (fun K2 hK2=> ?_) qrG.nil);go_simp;have HB2:Hid ((W1_13.alloc (.cells #[.string t] 9)).heap[W1_13.heap.size]? =some (.cells #[.string t] 9 (0,0))):=hI_ (heap_alloc_new _ _);have HK2:=hI_ (HK1.out.below (qab (bR_ W1_13.heap.size W1_13) (.cells #[.string t] 9)));have HB1_2:=hI_ (qau (o:=.cells #[.string t] 9) HB1.out);obtain⟨W2_7,hW2⟩:∃ W,W1_13.alloc (.cells #[.string t] 9)=W:=⟨_,rfl⟩
    obtain⟨k2,hk2⟩:∃ k,W1_13.heap.size=k:=⟨_,rfl⟩
    rw[hW2,hk2] at HB2;rw[hW2] at HK2 HB1_2;rw[hW2,hk2];clear hW2 hk2;refine hK2.out _ _ ⟨HK2.out.c4,HK2.out.c5⟩ (fun hI=> ?_);clear hS;have hS:_∧_:=⟨HK2.out.c4,HK2.out.c5⟩
    refine qrN (rs:=[8]) d_ k_ (qrG.cons hI rfl d_ (fun K3 hK3=> ?_) qrG.nil);refine qa9 p_ ?_;refine qsb HK2.out h0 HLB.out HB2.out rfl rfl rfl (fun A3 c3 W3_8 hk3 hg3 hp3 hs3=> ?_);have HK3:=hI_ hk3;have HG3:=hI_ hg3;have HB1_2_3:=hI_ ((hp3.2 _ _ _ _ HB1_2.out e_).trans HB1_2.out);clear hk3 hg3 hp3 hs3;refine hK3.out _ _ ⟨HK3.out.c4,HK3.out.c5⟩ (fun hI=> ?_);clear hS;have hS:_∧_:=⟨HK3.out.c4,HK3.out.c5⟩
    refine qrN (rs:=[14]) d_ k_ (qrG.cons hI rfl d_ (fun K4 hK4=> ?_) qrG.nil);refine qa9 p_ ?_;refine qsc HK3.out h0 HLH.out HB1_2_3.out rfl rfl rfl (fun A4 c4 W4_14 hk4 hg4 hp4 hs4=> ?_);have HK4:=hI_ hk4;have HG4:=hI_ hg4;have HG3_4:=hI_ (HG3.out.keep hp4 e_);clear hk4 hg4 hp4 hs4;refine hK4.out _ _ ⟨HK4.out.c4,HK4.out.c5⟩ (fun hI=> ?_);clear hS;have hS:_∧_:=⟨HK4.out.c4,HK4.out.c5⟩
    refine gF_ ?_ hI;clear hI;refine tG_ 15 ?_;refine tG_ 16 ?_;refine eF_ fun hI=>?_;obtain⟨e1,e2,e3⟩:=HK4.out.fin h0 HG3_4.out HG4.out;have fz4:=HK4.out.fz 4;have fz5:=HK4.out.fz 5;refine qrK (i:=17) hI rfl d_ rfl (fun Ka hKa=> ?_);go_simp;refine hKa.out _ _ (fun hI=> ?_);refine gF_ ?_ hI;clear hI;refine tG_ 18 ?_;refine tG_ 19 ?_;refine eF_ fun hI=>?_;refine qrK (i:=20) hI rfl d_ rfl (fun Kb hKb=> ?_);go_simp;refine hKb.out _ _ (fun hI=> ?_);refine qrM d_ ?_;go_wp2_with fail
    go_meet;simp only[HF.out] at e1 e2 e3 ⊢;exact⟨e1,e2,e3⟩
 case rest=>
  obtain⟨hm,hb,hc⟩:=hcut;obtain⟨wx,rfl⟩:∃ W,W=wc:=⟨_,rfl⟩
  clear g0 g1 g2 g3 g4 g5 t2 t0;have hxs:0<(x.feeds.set 0 ⟨f.pub,f.hd,f.bl++[t],f.hv++[true]⟩).length:=by rw[List.length_set];exact h0
  obtain⟨_,_,jb,jh,hA,_,g0,g1,g2,g3,g4,g5,hFj⟩:=hm.p.F.r.at_ (j:=0) hxs;cases hA;simp only[Nat.zero_mul,Nat.zero_add,List.getElem_set_self] at g0 g1 g2 g3 g4 g5 hFj;have HM2:=hI_ hm;have HB2:=hI_ hb;have HC2:=hI_ hc;have hrs:RS wx jb (f.bl++[t]):=hFj.bl;obtain⟨uA,uc,rfl⟩:=hFj.bl.sl';obtain⟨uH,ud,rfl⟩:=hFj.hv.sl';obtain⟨m2,hm2⟩:∃ m,(f.bl++[t]).length=m:=⟨_,rfl⟩
  obtain⟨m3,hm3⟩:∃ m,(f.hv++[true]).length=m:=⟨_,rfl⟩
  simp only[hm2,hm3] at g4 g5 hrs;have HRS:=hI_ hrs;clear hrs hm2 hm3;have HSZ2:Hid (∀ s ∈ f.bl++[t],s.size≤8):=hI_ (fun s hs=>by
   rcases List.mem_append.1 hs with h1|h1
   · exact HSZ.out s h1
   · rw[List.mem_singleton.1 h1];omega)
  have t0:=hm.bx.c0;have lq:=hm.lt;have lg:g<wx.heap.size:=by
   obtain⟨_,F,k1,_⟩:=hm.p.F;exact(k1.lt g rfl).2
  obtain⟨hd,HH⟩:=nm_ ((qbJ x.sec (lvs (f.bl++[t]))).1);have HFF:Hid (∀ W,bB wx W→W.frozen? ⟨g,1,none⟩=false∧W.frozen? ⟨g,2,none⟩=false∧W.frozen? ⟨g,3,none⟩=false):=hI_ (fun W hW=>by
   obtain⟨_,F,k1,_⟩:=hm.p.F;obtain⟨cur,k2⟩:=k1.row0 g rfl;have k3:=(hW.block g lg).trans k2;exact⟨qgI k3 _,qgI k3 _,qgI k3 _⟩)
  clear hFj hm hb hc hqg hB hgl hxs;go_upto_region 3 with fail
  have d0:wx.drew.cell? ⟨q,o,none⟩=_:=t0;have e0:wx.drew.cell? ⟨g,0,none⟩=_:=g0;have e1:wx.drew.cell? ⟨g,1,none⟩=_:=g1;have e2:wx.drew.cell? ⟨g,2,none⟩=_:=g2;have e3:wx.drew.cell? ⟨g,3,none⟩=_:=g3;have e4:wx.drew.cell? ⟨g,4,none⟩=_:=g4;have e5:wx.drew.cell? ⟨g,5,none⟩=_:=g5;have HKS:Hid (∀ W,bB wx W→W.cell? ⟨q,o,none⟩=some (.int .i64 x.sec)∧W.cell? ⟨g,0,none⟩=some (.int .i64 f.pub)∧W.cell? ⟨g,1,none⟩=some (.int .i64 f.hd.len)∧W.cell? ⟨g,2,none⟩=some (.int .i64 f.hd.dg)∧W.cell? ⟨g,3,none⟩=some (.int .i64 f.hd.sg)∧W.cell? ⟨g,4,none⟩=some (.slice uA m2 uc)∧W.cell? ⟨g,5,none⟩=some (.slice uH m3 ud)):=
   hI_ fun W hW=>⟨(hW.cell (p:=⟨q,o,none⟩) lq).trans t0,(hW.cell (p:=⟨g,0,none⟩) lg).trans g0,(hW.cell (p:=⟨g,1,none⟩) lg).trans g1,(hW.cell (p:=⟨g,2,none⟩) lg).trans g2,(hW.cell (p:=⟨g,3,none⟩) lg).trans g3,(hW.cell (p:=⟨g,4,none⟩) lg).trans g4,(hW.cell (p:=⟨g,5,none⟩) lg).trans g5⟩
  refine qrO (fun w'=>w'.cell? ⟨q,o,none⟩=some (.int .i64 x.sec)∧w'.cell? ⟨g,0,none⟩=some (.int .i64 f.pub)∧w'.cell? ⟨g,1,none⟩=some (.int .i64 f.hd.len)∧w'.cell? ⟨g,2,none⟩=some (.int .i64 f.hd.dg)∧w'.cell? ⟨g,3,none⟩=some (.int .i64 f.hd.sg)∧w'.cell? ⟨g,4,none⟩=some (.slice uA m2 uc)∧w'.cell? ⟨g,5,none⟩=some (.slice uH m3 ud)) (fun i=>decide (0<i)&&decide (i<11)) d_ ⟨d0,e0,e1,e2,e3,e4,e5⟩ (fun hS hI=> ?_);clear d0 e0 e1 e2 e3 e4 e5 t0 g0 g1 g2 g3 g4 g5;refine gU_ ?_ hI hS;clear hI;refine tF_ 0 ?_;refine tU_ 1 ?_;refine tU_ 2 ?_;refine tU_ 3 ?_;refine tU_ 4 ?_;refine tU_ 5 ?_;refine tU_ 6 ?_;refine tU_ 7 ?_;refine eU_ fun hI=>?_;refine qrQ (i:=8) hI rfl d_ (fun K1 hK1=> ?_);go_simp;go_at_call 152
  refine(qeb f.pub f.hd _ _ (f.bl++[t]) _ (HRS.out.below (qac (bR_ _ _))) (by rw[List.length_append];have:=HL2.out;simp;omega) HSZ2.out).mono ?_;rintro e w4 ⟨v4,rfl,ho4,hb4⟩;have hb24:bB wx w4:=(qac (bR_ wx.heap.size wx)).trans hb4;refine hK1.out _ _ (HKS.out _ hb24) (fun hI=> ?_);refine qrQ (i:=9) hI rfl d_ (fun K2 hK2=> ?_);go_simp;go_at_call 155
  refine(qkk x.sec _ _ _ ho4.r1).mono ?_;rintro e w5 ⟨rfl,hb5⟩;rw[HH.out];have hb25:bB wx w5:=hb24.trans (hb5.mono hb24.size);have hS5:=HKS.out _ hb25;refine hK2.out _ _ hS5 (fun hI=> ?_);clear hS;have hS:=hS5;refine gU_ ?_ hI hS;clear hI;refine tU_ 10 ?_;refine tF_ 11 ?_;refine tF_ 12 ?_;refine tF_ 13 ?_;refine tF_ 14 ?_;refine eU_ fun hI=>?_;obtain⟨f1,f2,f3⟩:=HFF.out _ hb25;have hm5:=HM2.out.below hb25;obtain⟨k1,k2⟩:=hm5.p.F.put123 hd (by rw[List.length_set];exact h0);obtain⟨W9,HW9⟩:=nm_ (((w5.setCell ⟨g,1,none⟩ (.int .i64 hd.len)).setCell ⟨g,2,none⟩ (.int .i64 hd.dg)).setCell ⟨g,3,none⟩ (.int .i64 hd.sg));rw[HW9.out] at k1 k2;obtain⟨_,F,k3,_⟩:=hm5.p.F;obtain⟨cur,k4⟩:=k3.row0 g rfl;have hqg:q≠g:=hm5.bx.row k4 e_;have HM9:=hI_ (hm5.setF hqg k4 (k1.mono (nr_ _) k2.size) k2);have HB9:Hid (Below B w W9):=hI_ (Below.grown (HB2.out.trans (hb25.mono HM2.out.bs)) k2 hm5.bs (fun r hr=>by cases hr;exact(k3.lt g rfl).1));have HC9:Hid (∀ i,i<o→W9.cell? ⟨q,i,none⟩=w.cell? ⟨q,i,none⟩):=hI_ (fun i hi=>by
   rw[World.cell?_of_block (k2.block q hm5.lt (fun e=>by cases e;exact hqg rfl)),World.cell?_of_block (hb25.block q HM2.out.lt)];exact HC2.out i hi)
  obtain⟨_,s0,s1,s2,s3,s4,s5⟩:=hS5;clear hm5 k1 k2 k3 k4;refine qrK (i:=15) hI rfl d_ rfl (fun K3 hK3=> ?_);go_simp;rw[HW9.out];refine hK3.out _ _ (fun hI=> ?_);refine qrM d_ ?_;go_wp2_with fail
  refine bodyPost_end (results_none Tryz.results108 _ _ _) rfl ?_;rw[HR.out];have hmo:f.more x.sec t=⟨f.pub,hd,f.bl++[t],f.hv++[true]⟩:=by rw[←HH.out];rfl
  have hfin:=HM9.out;simp only[List.getElem_set_self,List.set_set] at hfin;rw[hmo];exact⟨rfl,_,_,_,_,hfin,HB9.out,HC9.out⟩
end Go.Proofs.YtekaaekpdebloaaGreatDoor

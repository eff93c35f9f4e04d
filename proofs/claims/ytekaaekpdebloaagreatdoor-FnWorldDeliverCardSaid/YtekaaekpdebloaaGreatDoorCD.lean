/- Words and walks of the law. -/
import Derived.Test.YtekaaekpdebloaaGreatDoorBX
set_option linter.unusedVariables false
set_option linter.unusedSimpArgs false
namespace Go.Proofs.YtekaaekpdebloaaGreatDoor
open Go.RowKit

theorem qff{dg n i leaf:Int}{l:List Int}{b:Bool}(h:Hid (qaT dg n i leaf l=b))(v:Value)(w:World)(hv:RI w v l):
 Calls Tryz.prog 211 #[.int .i64 dg,.int .i64 n,.int .i64 i,.int .i64 leaf,v] w fun e w'=>e=.returned (.bool b)∧Below w.heap.size w w':=by
 rw[←h.out];exact qi7 dg n i leaf l v w hv
theorem qez{s:ByteArray}{d:Int}(h:Hid (qbi s.data.toList=d))(w:World)(hs:s.size≤8):Calls Tryz.prog 28 #[.string s] w fun e w'=>e=.returned (.int .i64 d)∧w=w':=by
 rw[←h.out];exact qdt s w hs
def qg9(o:Fd)(ok:Bool)(w:World)(e:Ending)(w':World):Prop:=
 ∃ ub uh,e=.returned (.tuple #[.agg #[.int .i64 o.pub,.int .i64 o.hd.len,.int .i64 o.hd.dg,.int .i64 o.hd.sg,ub,uh],.bool ok])∧qaK w.heap.size w' o ub uh∧Below w.heap.size w w'
theorem FB.setAtH{B q gb n c:Nat}{w:World}{f:Fd}{vb:Value}(h:FB B q w f vb (.slice (some ⟨gb,0,none⟩) n c)){m:Nat}(hm:m<f.hv.length)(t:Bool):
 FB B q (w.setCell ⟨gb,m,none⟩ (.bool t)) {f with hv:=f.hv.set m t} vb (.slice (some ⟨gb,0,none⟩) n c):=by
 have h1:=h.fo.hv.setAt hm t;have hne:some gb≠some q:=h.nh;have h2:=h.fo.bl.grown h1.2 (O1.ne_ h.fo.bl h.fo.hv e_);exact⟨(h1.2.block q h.lt (fun e=>hne e.symm)).trans h.box,⟨h2,h1.1⟩⟩
theorem qfg{dg n i leaf:Int}{l:List Int}{b:Bool}(h:Hid (qaT dg n i leaf l=b))(v:Value)(w:World)(hv:RI w v l):
 Calls Tryz.prog 255 #[.int .i64 dg,.int .i64 n,.int .i64 i,.int .i64 leaf,v] w fun e w'=>e=.returned (.bool b)∧w=w':=by
 rw[←h.out];exact qi8 dg n i leaf l v w hv
theorem qjY{s:ByteArray}{d:Int}(h:Hid (qbi s.data.toList=d))(w:World)(hs:s.size≤maxLen):Calls Tryz.prog 132 #[.string s] w fun e w'=>e=.returned (.int .i64 d)∧w=w':=by
 rw[←h.out];exact qe7 s w hs
theorem qe0{k gb m o:Nat}{w:World}{u:Value}(hk:¬ k=gb):(w.setCell ⟨gb,m,none⟩ u).cell? ⟨k,o,none⟩=w.cell? ⟨k,o,none⟩:=World.cell?_of_block (Below.heap_setCell _ _ _ _ hk)
theorem qhn{f:Fd}{i:Int}{t:ByteArray}{proof:List Int}(h:qaq f=false∨8<t.size):qes f i t proof=(Fd.zero,false):=by
 unfold qes;rw[if_neg];rcases h with h|h
 · rw[h];simp
 · simp;intro _;exact h
theorem qcM{f:Fd}{i:Int}{t:ByteArray}{proof:List Int}(h1:qaq f=true)(h2:t.size≤8)(h:qbR f i t proof=false∨qaq (f.put i.toNat t)=false):qes f i t proof=(f,false):=by
 unfold qes;rw[if_pos (by rw[h1];simpa using h2),if_neg];rcases h with h|h <;> simp[h]
theorem qih{f:Fd}{i:Int}{t:ByteArray}{proof:List Int}(h1:qaq f=true)(h2:t.size≤8)(h3:qbR f i t proof=true)(h4:qaq (f.put i.toNat t)=true):qes f i t proof=(f.put i.toNat t,true):=by
 unfold qes;rw[if_pos (by rw[h1];simpa using h2),if_pos (by simp[h3,h4])]
set_option maxHeartbeats 3200000 in
set_option maxRecDepth 100000 in
theorem qk6(f:Fd)(i:Int)(t:ByteArray)(proof:List Int)(vb vh pv:Value)(w:World)(hf:qaU w f vb vh)(ht:t.size≤maxLen)(hp:RI w pv proof):
 Calls Tryz.prog 198 #[.agg #[.int .i64 f.pub,.int .i64 f.hd.len,.int .i64 f.hd.dg,.int .i64 f.hd.sg,vb,vh],.int .i64 i,.string t,pv] w (qg9 (qes f i t proof).1 (qes f i t proof).2 w):=by
 obtain⟨W0,HW0⟩:=nm_ ((w.alloc (.cells #[.int .i64 f.pub,.int .i64 f.hd.len,.int .i64 f.hd.dg,.int .i64 f.hd.sg,vb,vh] 50)).alloc (.cells #[.int .i64 0,.int .i64 0,.int .i64 0,.int .i64 0,.slice none 0 0,.slice none 0 0] 50));have HB0:Hid (Below w.heap.size w W0):=hI_ r_;have hs0:w.heap.size+2=W0.heap.size:=by rw[←HW0.out];simp
 have hp0:W0.heap[w.heap.size]? =some (.cells #[.int .i64 f.pub,.int .i64 f.hd.len,.int .i64 f.hd.dg,.int .i64 f.hd.sg,vb,vh] 50 (0,0)):=by
  rw[←HW0.out];exact(((bR_ (w.heap.size+1) _).alloc k_ _).block w.heap.size a_).trans (heap_alloc_new w _)
 have hz0:W0.heap[w.heap.size+1]? =some (.cells #[.int .i64 0,.int .i64 0,.int .i64 0,.int .i64 0,.slice none 0 0,.slice none 0 0] 50 (0,0)):=by
  rw[←HW0.out];have:=heap_alloc_new (w.alloc (.cells #[.int .i64 f.pub,.int .i64 f.hd.len,.int .i64 f.hd.dg,.int .i64 f.hd.sg,vb,vh] 50)) (.cells #[.int .i64 0,.int .i64 0,.int .i64 0,.int .i64 0,.slice none 0 0,.slice none 0 0] 50);simpa using this
 have HP0:=hI_ hp0;have HZ0:=hI_ hz0;have HF0:Hid (qaU W0 f vb vh):=hI_ (hf.below HB0.out);have HPR:Hid (RI W0 pv proof):=hI_ (hp.below HB0.out);have hl0:w.heap.size<W0.heap.size:=a_;have hl1:w.heap.size+1<W0.heap.size:=a_;have htm:t.size≤9223372036854775807:=by unfold maxLen at ht;omega
 obtain⟨A,c,rfl,nn1,nn2,_⟩:=hf.bl;obtain⟨B,d,rfl,_,_,_⟩:=hf.hv;have hbm:f.bl.length≤9223372036854775807:=by unfold maxLen at nn2;have:=nn1.1;omega
 obtain⟨pA,pc,rfl,_,_,_⟩:=hp;obtain⟨x0,x1,x2,x3,x4,x5,xf⟩:=qaa hp0;clear hp0 hz0 hf nn1 nn2;obtain⟨b0,HV⟩:=nm_ (qaq f);go_enter Tryz.func198,Tryz.ntmps198
 go_wp2_with fail
 rw[HW0.out];refine(qbD HV _ _ W0 HF0.out).mono ?_;rintro e w1 ⟨rfl,hb1⟩;have hp1:=(hb1.block _ hl0).trans HP0.out;have hz1:=(hb1.block _ hl1).trans HZ0.out;clear x0 x1 x2 x3 x4 x5 xf;obtain⟨x0,x1,x2,x3,x4,x5,xf⟩:=qaa hp1;obtain⟨z0,z1,z2,z3,z4,z5,zf⟩:=qaa hz1;have HP1:=hI_ hp1;have HZ1:=hI_ hz1;clear hp1 hz1;cases b0
 · have HR:=hI_ (qhn (f:=f) (i:=i) (t:=t) (proof:=proof) (.inl HV.out));go_wp2
   refine bodyPost_ret (v:=.tuple #[.agg #[.int .i64 0,.int .i64 0,.int .i64 0,.int .i64 0,.slice none 0 0,.slice none 0 0],.bool false]) bK_ rfl ⟨_,_,v_,?_,?_⟩
   · rw[HR.out];exact(qaK.set6 ⟨O1.nil _ _ _ _,O1.nil _ _ _ _⟩ hl1 _ _ _ _ _ _).mono (Nat.le_of_lt hl0)
   · exact qae (HB0.out.trans (hb1.mono (Nat.le_of_lt hl0))) (Nat.le_succ _) _ _ _ _ _ _
 by_cases ht8:8<t.size
 · have HR:=hI_ (qhn (f:=f) (i:=i) (t:=t) (proof:=proof) (.inr ht8));have ht8':(8:Int)<(t.size:Int):=a_;go_wp2
   refine bodyPost_ret (v:=.tuple #[.agg #[.int .i64 0,.int .i64 0,.int .i64 0,.int .i64 0,.slice none 0 0,.slice none 0 0],.bool false]) bK_ rfl ⟨_,_,v_,?_,?_⟩
   · rw[HR.out];exact(qaK.set6 ⟨O1.nil _ _ _ _,O1.nil _ _ _ _⟩ hl1 _ _ _ _ _ _).mono (Nat.le_of_lt hl0)
   · exact qae (HB0.out.trans (hb1.mono (Nat.le_of_lt hl0))) (Nat.le_succ _) _ _ _ _ _ _
 have ht8':¬ (8:Int)<(t.size:Int):=a_;have ht8:t.size≤8:=a_;obtain⟨l1,l16,l0⟩:=qax HV.out;have HL1:=hI_ l1;have h16:f.hv.length≤16:=a_;clear l1 l0;have HF1:Hid (qaU w1 f (.slice A f.bl.length c) (.slice B f.hv.length d)):=hI_ (HF0.out.below hb1);obtain⟨b1,HI⟩:=nm_ (inB i 0 ((f.bl.length:Int)-1));obtain⟨dd,HD⟩:=nm_ (qbi t.data.toList);go_wp2_with fail
 refine(qc1 f _ _ w1 HF1.out a_ a_).mono ?_;rintro e w2 ⟨ub,uh,rfl,ho2,hb2⟩;obtain⟨uA,uc,rfl⟩:=ho2.bl.sl;obtain⟨tA,tc,rfl⟩:=ho2.hv.sl;have hfb:=FB.made ho2;have hb3:=(hb1.trans (hb2.mono hb1.size)).alloc (Nat.le_trans hb1.size hb2.size) (.cells #[.int .i64 f.pub,.int .i64 f.hd.len,.int .i64 f.hd.dg,.int .i64 f.hd.sg,.slice uA f.bl.length uc,.slice tA f.hv.length tc] 50);clear x0 x1 x2 x3 x4 x5 xf z0 z1 z2 z3 z4 z5 zf;have hq2:W0.heap.size≤w2.heap.size:=Nat.le_trans hb1.size hb2.size;go_wp2_with fail
 obtain⟨W3,HW3⟩:=nm_ (w2.alloc (.cells #[.int .i64 f.pub,.int .i64 f.hd.len,.int .i64 f.hd.dg,.int .i64 f.hd.sg,.slice uA f.bl.length uc,.slice tA f.hv.length tc] 50));rw[HW3.out] at hfb hb3 ⊢;obtain⟨q,HQ⟩:=nm_ w2.heap.size;rw[HQ.out] at hfb hq2 ⊢;have hq1:W0.heap.size≤w1.heap.size:=hb1.size;have hfb:=FB.mono hfb hq1;clear ho2 hb2;have HPW:=hI_ (HPR.out.below hb3);have HFW:=hI_ (HF0.out.below hb3);have HPB:=hI_ ((hb3.block _ hl0).trans HP0.out);have HZB:=hI_ ((hb3.block _ hl1).trans HZ0.out);have hlW:w.heap.size<W3.heap.size:=nL_ hl0 hb3.size;obtain⟨x0,x1,x2,x3,x4,x5,xf⟩:=qaa HPB.out;cases b1
 · have HR:=hI_ (qcM (i:=i) (proof:=proof) HV.out ht8 (.inl (by unfold qbR;rw[HI.out];rfl)));have hup:=qap W3;refine qoH ?_;repeat(go_big_quiet_step (first
    |(go_at_call 124;exact qaj (qbG HI _))))
   refine wq_ fun w4 hb4=>?_;clear hup;have hb04:=hb3.trans (hb4.mono hb3.size);clear x0 x1 x2 x3 x4 x5 xf;have hfb4:=hfb.below hb4;have k0:=hfb4.c0;have k1:=hfb4.c1;have k2:=hfb4.c2;have k3:=hfb4.c3;have k4:=hfb4.c4;have k5:=hfb4.c5;obtain⟨z0,z1,z2,z3,z4,z5,zf⟩:=qaa ((hb04.block _ hl1).trans HZ0.out);go_wp2
   refine bodyPost_ret (v:=.tuple #[.agg #[.int .i64 f.pub,.int .i64 f.hd.len,.int .i64 f.hd.dg,.int .i64 f.hd.sg,.slice uA f.bl.length uc,.slice tA f.hv.length tc],.bool false]) bK_ rfl ⟨_,_,v_,?_,?_⟩
   · rw[HR.out];exact(qaK.set6 hfb4.fo hl1 _ _ _ _ _ _).mono (Nat.le_of_lt hl0)
   · exact qae (HB0.out.trans (hb04.mono (Nat.le_of_lt hl0))) (Nat.le_succ _) _ _ _ _ _ _
 have hin:=qak.1 HI.out;obtain⟨m,rfl⟩:∃ m:Nat,i=m:=⟨i.toNat,a_⟩
 have hmb:m<f.bl.length:=a_;have hmh:m<f.hv.length:=by have:=HL1.out;omega
 have hmi:(m:Int)<(f.hv.length:Int):=a_;have hmj:(m:Int)<(f.bl.length:Int):=a_;clear hin;have hcell:∃ b o,B=some ⟨b,o,none⟩∧b<W3.heap.size∧W3.cell? ⟨b,o+m,none⟩=some (.bool f.hv[m]):=by
  obtain⟨_,_,hA,_,_,hc⟩:=HFW.out.hv;cases hA;obtain⟨b,o,hA,hb,hc⟩:=hc a_;exact⟨b,o,hA,hb,hc m hmh⟩
 obtain⟨bb,oo,rfl,hbb,hcell⟩:=hcell;have HG:Hid (f.hv.getD m false=f.hv[m]):=hI_ (by rw[List.getD_eq_getElem?_getD,List.getElem?_eq_getElem hmh];rfl);obtain⟨b2,HB2⟩:=nm_ (f.hv[m]);rw[HB2.out] at hcell HG;cases b2
 rotate_left
 · have HR:=hI_ (qcM (i:=(m:Int)) (proof:=proof) HV.out ht8 (.inl (by unfold qbR;rw[Int.toNat_natCast,HG.out];simp)));have hup:=qap W3;refine qoH ?_;repeat(go_big_quiet_step (first
    |(go_at_call 124;exact qaj (qbG HI _))))
   refine wq_ fun w4 hb4=>?_;clear hup;have hb04:=hb3.trans (hb4.mono hb3.size);clear x0 x1 x2 x3 x4 x5 xf;have hfb4:=hfb.below hb4;have k0:=hfb4.c0;have k1:=hfb4.c1;have k2:=hfb4.c2;have k3:=hfb4.c3;have k4:=hfb4.c4;have k5:=hfb4.c5;obtain⟨z0,z1,z2,z3,z4,z5,zf⟩:=qaa ((hb04.block _ hl1).trans HZ0.out);go_wp2
   refine bodyPost_ret (v:=.tuple #[.agg #[.int .i64 f.pub,.int .i64 f.hd.len,.int .i64 f.hd.dg,.int .i64 f.hd.sg,.slice uA f.bl.length uc,.slice tA f.hv.length tc],.bool false]) bK_ rfl ⟨_,_,v_,?_,?_⟩
   · rw[HR.out];exact(qaK.set6 hfb4.fo hl1 _ _ _ _ _ _).mono (Nat.le_of_lt hl0)
   · exact qae (HB0.out.trans (hb04.mono (Nat.le_of_lt hl0))) (Nat.le_succ _) _ _ _ _ _ _
 obtain⟨b3,HC⟩:=nm_ (qaT f.hd.dg f.hd.len m dd proof);cases b3
 · have HR:=hI_ (qcM (i:=(m:Int)) (proof:=proof) HV.out ht8 (.inl (by unfold qbR;rw[HD.out,HC.out];simp)));have hup:=qap W3;refine qoH ?_;repeat(go_big_quiet_step (first
    |(go_at_call 124;exact qaj (qbG HI _))
    |(go_at_call 132;exact qaj (qjY HD _ ht))
    |(go_at_call 255;exact qaj (qfg HC _ _ (HPW.out.up _)))))
   refine wq_ fun w4 hb4=>?_;clear hup;have hb04:=hb3.trans (hb4.mono hb3.size);clear x0 x1 x2 x3 x4 x5 xf;have hfb4:=hfb.below hb4;have k0:=hfb4.c0;have k1:=hfb4.c1;have k2:=hfb4.c2;have k3:=hfb4.c3;have k4:=hfb4.c4;have k5:=hfb4.c5;obtain⟨z0,z1,z2,z3,z4,z5,zf⟩:=qaa ((hb04.block _ hl1).trans HZ0.out);go_wp2
   refine bodyPost_ret (v:=.tuple #[.agg #[.int .i64 f.pub,.int .i64 f.hd.len,.int .i64 f.hd.dg,.int .i64 f.hd.sg,.slice uA f.bl.length uc,.slice tA f.hv.length tc],.bool false]) bK_ rfl ⟨_,_,v_,?_,?_⟩
   · rw[HR.out];exact(qaK.set6 hfb4.fo hl1 _ _ _ _ _ _).mono (Nat.le_of_lt hl0)
   · exact qae (HB0.out.trans (hb04.mono (Nat.le_of_lt hl0))) (Nat.le_succ _) _ _ _ _ _ _
 have HMAY:Hid (qbR f m t proof=true):=hI_ (by unfold qbR;rw[HI.out,Int.toNat_natCast,HG.out,HD.out,HC.out];rfl);have hup:=qap W3;refine qoH ?_;repeat(go_big_quiet_step (first
  |(go_at_call 124;exact qaj (qbG HI _))
  |(go_at_call 132;exact qaj (qjY HD _ ht))
  |(go_at_call 255;exact qaj (qfg HC _ _ (HPW.out.up _)))))
 refine wq_ fun w4 hb4=>?_;clear hup;have hb04:=hb3.trans (hb4.mono hb3.size);clear x0 x1 x2 x3 x4 x5 xf;have hfb4:=hfb.below hb4;obtain⟨gb,cb,hA,hgb1,hgb2⟩:=hfb4.fo.bl.form a_;cases hA;obtain⟨gh,ch,hA,hgh1,hgh2⟩:=hfb4.fo.hv.form a_;cases hA;have hgbq:gb≠q:=fun e=>hfb4.nb (by rw[e];rfl);have hghq:gh≠q:=fun e=>hfb4.nh (by rw[e];rfl);have hgbh:gb≠gh:=by
  rcases O1.ne_ hfb4.fo.bl hfb4.fo.hv e_ with h|h
  · cases h
  · intro e;apply h;rw[e];rfl
 have hgbq':¬ q=gb:=fun e=>hgbq e.symm;have hghq':¬ q=gh:=fun e=>hghq e.symm;have hgbh':¬ gh=gb:=fun e=>hgbh e.symm;obtain⟨e1,e2⟩:=hfb4.fo.bl.at_ hmb;obtain⟨e3,e4⟩:=hfb4.fo.hv.at_ hmh;have e1':∃ u,w4.cell? ⟨gb,m,none⟩=some u:=⟨_,e1⟩
 have e3':∃ u,w4.cell? ⟨gh,m,none⟩=some u:=⟨_,e3⟩
 clear e1 e3;obtain⟨ue,e1⟩:=e1';obtain⟨ve,e3⟩:=e3';have k0:=hfb4.c0;have k1:=hfb4.c1;have k2:=hfb4.c2;have k3:=hfb4.c3;have k4:=hfb4.c4;have k5:=hfb4.c5;have hfb6:=(hfb4.setAt hmb t).setAtH (m:=m) (by show m<f.hv.length;omega) true;have hb06:=(hb04.setCell (p:=⟨gb,m,none⟩) hgb1 (.string t)).setCell (p:=⟨gh,m,none⟩) hgh1 (.bool true);have HPUT:Hid ((f.put (m:Int).toNat t)={f with bl:=f.bl.set m t,hv:=f.hv.set m true}):=hI_ rfl;obtain⟨b5,HV5⟩:=nm_ (qaq {f with bl:=f.bl.set m t,hv:=f.hv.set m true});go_wp2_with fail
 obtain⟨W7,HW7⟩:=nm_ (((w4.setCell ⟨gb,m,none⟩ (.string t)).setCell ⟨gh,m,none⟩ (.bool true)));rw[HW7.out] at hfb6 hb06 ⊢;refine(qbD HV5 _ _ W7 hfb6.fo.r).mono ?_;rintro e w8 ⟨rfl,hb8⟩;have hfb8:=hfb6.below hb8;have hb08:=hb06.trans (hb8.mono hb06.size);clear hfb6 hb06 k0 k1 k2 k3 k4 k5 e1 e2 e3 e4;cases b5
 · have HR:=hI_ (qcM (i:=(m:Int)) (proof:=proof) HV.out ht8 (.inr ba_));obtain⟨x0,x1,x2,x3,x4,x5,xf⟩:=qaa ((hb08.block _ hl0).trans HP0.out);go_wp2_with fail
   refine(qc1 f _ _ w8 (HF0.out.below hb08) a_ a_).mono ?_;rintro e w9 ⟨ub,uh,rfl,ho9,hb9⟩;obtain⟨vA,vc,rfl⟩:=ho9.bl.sl;obtain⟨yA,yc,rfl⟩:=ho9.hv.sl;have hb09:=hb08.trans (hb9.mono hb08.size);have ho9':=ho9.mono hb08.size;obtain⟨z0,z1,z2,z3,z4,z5,zf⟩:=qaa ((hb09.block _ hl1).trans HZ0.out);clear x0 x1 x2 x3 x4 x5 xf;go_wp2
   refine bodyPost_ret (v:=.tuple #[.agg #[.int .i64 f.pub,.int .i64 f.hd.len,.int .i64 f.hd.dg,.int .i64 f.hd.sg,.slice vA f.bl.length vc,.slice yA f.hv.length yc],.bool false]) bK_ rfl ⟨_,_,v_,?_,?_⟩
   · rw[HR.out];exact(qaK.set6 ho9' hl1 _ _ _ _ _ _).mono (Nat.le_of_lt hl0)
   · exact qae (HB0.out.trans (hb09.mono (Nat.le_of_lt hl0))) (Nat.le_succ _) _ _ _ _ _ _
 · have HR:=hI_ (qih (i:=(m:Int)) (proof:=proof) HV.out ht8 HMAY.out ba_);have k0:=hfb8.c0;have k1:=hfb8.c1;have k2:=hfb8.c2;have k3:=hfb8.c3;have k4:=hfb8.c4;have k5:=hfb8.c5;obtain⟨z0,z1,z2,z3,z4,z5,zf⟩:=qaa ((hb08.block _ hl1).trans HZ0.out);go_wp2
   refine bodyPost_ret (v:=.tuple #[.agg #[.int .i64 f.pub,.int .i64 f.hd.len,.int .i64 f.hd.dg,.int .i64 f.hd.sg,.slice (some ⟨gb,0,none⟩) f.bl.length uc,.slice (some ⟨gh,0,none⟩) f.hv.length tc],.bool true]) bK_ rfl ⟨_,_,v_,?_,?_⟩
   · rw[HR.out];exact(qaK.set6 hfb8.fo hl1 _ _ _ _ _ _).mono (Nat.le_of_lt hl0)
   · exact qae (HB0.out.trans (hb08.mono (Nat.le_of_lt hl0))) (Nat.le_succ _) _ _ _ _ _ _

end Go.Proofs.YtekaaekpdebloaaGreatDoor

/- Words and walks of the law. -/
import Derived.Test.YtekaaekpdebloaaGreatDoorBG5
set_option linter.unusedVariables false
set_option linter.unusedSimpArgs false
set_option maxHeartbeats 12800000
set_option maxRecDepth 100000
namespace Go.Proofs.YtekaaekpdebloaaGreatDoor
open Go.RowKit

theorem qbb.box{g p:Nat}{a b:World}(h:qbb g a b)(hp:p<a.heap.size)(hne:p≠g):b.heap[p]? =a.heap[p]? :=h.block p hp (fun e=>hne (Option.some.inj e))
theorem qmw{ops:Array Oper}{rest:List Oper}{o:Oper}{a:Act}{Q:Exit→Act→World→Prop}{w:World}{base:Nat}{v:Value}{l:List ByteArray}{n:Nat}(hn0:w.heap.size=n)(hown:O1 Value.string base 9 w v l)(hn:l.length≤100000000000)(hbase:base≤w.heap.size){y:ByteArray}(hgd:o.guard=none){s x:Operand}
 (ho:o.op=.call {callee:=.builtin .append,args:= #[s,x],argTypes:= #[47,47]}) (hs:a.eval s=v) (hx:a.eval x=.slice (some ⟨n,0,none⟩) 1 1)
 (h:∀ v' w',O1 Value.string base 9 w' v' (l++[y])→w.grownBy w' v.ownBlock→wpList Tryz.prog ops Q rest (a.put o.dst v') w'):wpList Tryz.prog ops Q (o::rest) a (w.alloc (.cells #[.string y] 9)):=by
 subst hn0;exact qlf hown hn hbase hgd ho hs hx h
theorem FB.setAt{B q gb n c:Nat}{w:World}{f:Fd}{vh:Value}(h:FB B q w f (.slice (some ⟨gb,0,none⟩) n c) vh){m:Nat}(hm:m<f.bl.length)(t:ByteArray):
 FB B q (w.setCell ⟨gb,m,none⟩ (.string t)) {f with bl:=f.bl.set m t} (.slice (some ⟨gb,0,none⟩) n c) vh:=by
 have h1:=h.fo.bl.setAt hm t;have hne:some gb≠some q:=h.nb;have h2:=h.fo.hv.grown h1.2 (O1.ne_ h.fo.hv h.fo.bl e_);exact⟨(h1.2.block q h.lt (fun e=>hne e.symm)).trans h.box,⟨h1.1,h2⟩⟩
theorem qcN{q k:Nat}{w:World}(hk:k≠q)(x0 x1 x2 x3 x4 x5:Value):((((((w.setCell ⟨q,0,none⟩ x0).setCell ⟨q,1,none⟩ x1).setCell ⟨q,2,none⟩ x2).setCell ⟨q,3,none⟩ x3).setCell ⟨q,4,none⟩ x4).setCell ⟨q,5,none⟩ x5).heap[k]? =w.heap[k]? :=
 ((Below.heap_setCell _ _ _ _ hk).trans ((Below.heap_setCell _ _ _ _ hk).trans ((Below.heap_setCell _ _ _ _ hk).trans ((Below.heap_setCell _ _ _ _ hk).trans ((Below.heap_setCell _ _ _ _ hk).trans (Below.heap_setCell _ _ _ _ hk))))))
theorem qh5(l:List ByteArray)(v:Value)(w:World)(hv:RS w v l)(hl:l.length≤10000000000):
 Calls Tryz.prog 179 #[v] w fun e w'=>∃ v',e=.returned v'∧O1 Value.string w.heap.size 9 w' v' l∧bB w w':=by
 have HV:=hI_ hv;obtain⟨A,c,rfl,h1,h2,h3⟩:=hv;clear h3;go_enter Tryz.func179,Tryz.ntmps179
 go_wp2_with (first
  |(at_make;refine qlZ (n:=l.length) rfl rfl rfl rfl a_ ?_;intro v1 w1 hown1 hb1;have hr:=HV.out.below hb1)
  |(at_builtin;refine qjN hown1 hr n_ hb1.size rfl rfl rfl rfl ?_;intro v2 w2 hown2 hb2))
 go_ret;exact⟨v2,rfl,by simpa using hown2,hb1.trans hb2⟩
theorem qkt(l:List Bool)(v:Value)(w:World)(hv:RB w v l)(hl:l.length≤10000000000):
 Calls Tryz.prog 180 #[v] w fun e w'=>∃ v',e=.returned v'∧O1 Value.bool w.heap.size 4 w' v' l∧bB w w':=by
 have HV:=hI_ hv;obtain⟨A,c,rfl,h1,h2,h3⟩:=hv;clear h3;go_enter Tryz.func180,Tryz.ntmps180
 go_wp2_with (first
  |(at_make;refine qkP (n:=l.length) rfl rfl rfl rfl a_ ?_;intro v1 w1 hown1 hb1;have hr:=HV.out.below hb1)
  |(at_builtin;refine qh0 hown1 hr n_ hb1.size rfl rfl rfl rfl ?_;intro v2 w2 hown2 hb2))
 go_ret;exact⟨v2,rfl,by simpa using hown2,hb1.trans hb2⟩
theorem qdm{q k o:Nat}{w:World}(hk:k≠q){x0 x1 x2 x3 x4 x5:Value}:((((((w.setCell ⟨q,0,none⟩ x0).setCell ⟨q,1,none⟩ x1).setCell ⟨q,2,none⟩ x2).setCell ⟨q,3,none⟩ x3).setCell ⟨q,4,none⟩ x4).setCell ⟨q,5,none⟩ x5).cell? ⟨k,o,none⟩=w.cell? ⟨k,o,none⟩:=
 World.cell?_of_block (qcN hk x0 x1 x2 x3 x4 x5)
theorem qbV(f:Fd)(vb vh:Value)(w:World)(hf:qaU w f vb vh)(h1:f.bl.length≤1000000)(h2:f.hv.length≤1000000):
 Calls Tryz.prog 102 #[.agg #[.int .i64 f.pub,.int .i64 f.hd.len,.int .i64 f.hd.dg,.int .i64 f.hd.sg,vb,vh]] w (qjH f w):=by
 obtain⟨W0,HW0⟩:=nm_ ((w.alloc (.cells #[.int .i64 f.pub,.int .i64 f.hd.len,.int .i64 f.hd.dg,.int .i64 f.hd.sg,vb,vh] 50)).alloc (.cells #[.int .i64 0,.int .i64 0,.int .i64 0,.int .i64 0,.slice none 0 0,.slice none 0 0] 50));have HB0:Hid (bB w W0):=hI_ r_;have hs0:w.heap.size+2=W0.heap.size:=by rw[←HW0.out];simp
 have hp0:W0.heap[w.heap.size]? =some (.cells #[.int .i64 f.pub,.int .i64 f.hd.len,.int .i64 f.hd.dg,.int .i64 f.hd.sg,vb,vh] 50 (0,0)):=by
  rw[←HW0.out];exact(((bR_ (w.heap.size+1) _).alloc k_ _).block w.heap.size a_).trans (heap_alloc_new w _)
 have hz0:W0.heap[w.heap.size+1]? =some (.cells #[.int .i64 0,.int .i64 0,.int .i64 0,.int .i64 0,.slice none 0 0,.slice none 0 0] 50 (0,0)):=by
  rw[←HW0.out];have:=heap_alloc_new (w.alloc (.cells #[.int .i64 f.pub,.int .i64 f.hd.len,.int .i64 f.hd.dg,.int .i64 f.hd.sg,vb,vh] 50)) (.cells #[.int .i64 0,.int .i64 0,.int .i64 0,.int .i64 0,.slice none 0 0,.slice none 0 0] 50);simpa using this
 have HP0:=hI_ hp0;have HZ0:=hI_ hz0;have HF0:Hid (qaU W0 f vb vh):=hI_ (hf.below HB0.out);have hl0:w.heap.size<W0.heap.size:=a_;have hl1:w.heap.size+1<W0.heap.size:=a_;obtain⟨A,c,rfl,_,_,_⟩:=hf.bl;obtain⟨B,d,rfl,_,_,_⟩:=hf.hv;obtain⟨p0,p1,p2,p3,p4,p5,pf⟩:=qaa hp0;clear hp0 hz0 hf;have hbd0:=qac (bR_ W0.heap.size W0);go_enter Tryz.func102,Tryz.ntmps102
 go_wp2_with fail
 rw[HW0.out];have hpne:w.heap.size≠w.heap.size+1:=a_;have hpd:W0.drew.heap[w.heap.size]? =_:=HP0.out;obtain⟨d0,d1,d2,d3,d4,d5,df⟩:=qaa hpd;go_region_held3 (fun w'=>w'.cell? ⟨w.heap.size,0,none⟩=some (.int .i64 f.pub)∧w'.cell? ⟨w.heap.size,1,none⟩=some (.int .i64 f.hd.len)∧w'.cell? ⟨w.heap.size,2,none⟩=some (.int .i64 f.hd.dg)∧w'.cell? ⟨w.heap.size,3,none⟩=some (.int .i64 f.hd.sg)∧w'.cell? ⟨w.heap.size,4,none⟩=some (.slice A f.bl.length c)∧w'.cell? ⟨w.heap.size,5,none⟩=some (.slice B f.hv.length d)) (first|with_reducible exact⟨d0,d1,d2,d3,d4,d5⟩|with_reducible exact⟨q0,q1,q2,q3,q4,q5⟩|with_reducible exact⟨r0,r1,r2,r3,r4,r5⟩|with_reducible exact⟨(qdm hpne).trans r0,(qdm hpne).trans r1,(qdm hpne).trans r2,(qdm hpne).trans r3,(qdm hpne).trans r4,(qdm hpne).trans r5⟩)
  (first
    |(go_at_call 179;refine(qh5 f.bl _ _ (HF0.out.bl.below hbd0) a_).mono ?_;rintro e w5 ⟨v5,rfl,ho5,hb5⟩;obtain⟨sA,sn,sc,rfl,hs5⟩:=ho5.sl2;have hb05:=hbd0.trans hb5;have HP5:=hI_ ((hb05.block _ hl0).trans HP0.out);obtain⟨q0,q1,q2,q3,q4,q5,qf⟩:=qaa HP5.out)
    |(go_at_call 180;refine(qkt f.hv _ _ (HF0.out.hv.below hb05) a_).mono ?_;rintro e w6 ⟨v6,rfl,ho6,hb6⟩;obtain⟨tA,tn,tc,rfl,hs6⟩:=ho6.sl2;have hb06:=hb05.trans (hb6.mono hb05.size);have HP6:=hI_ ((hb06.block _ hl0).trans HP0.out);have HZ6:=hI_ ((hb06.block _ hl1).trans HZ0.out);obtain⟨r0,r1,r2,r3,r4,r5,rf⟩:=qaa HP6.out;obtain⟨y0,y1,y2,y3,y4,y5,yf⟩:=qaa HZ6.out))
 have hfo:qaK W0.heap.size w6 f (.slice sA sn sc) (.slice tA tn tc):=⟨(ho5.below hb6).mono hbd0.size,ho6.mono hb05.size⟩
 go_wp2
 refine bodyPost_ret (v:=.agg #[.int .i64 f.pub,.int .i64 f.hd.len,.int .i64 f.hd.dg,.int .i64 f.hd.sg,.slice sA sn sc,.slice tA tn tc]) (by simp[results,Tryz.results102,go_sem,y0,y1,y2,y3,y4,y5]) rfl ⟨_,_,rfl,?_,?_⟩
 · exact(hfo.set6 hl1 _ _ _ _ _ _).mono (Nat.le_of_lt hl0)
 · exact qae (HB0.out.trans (hb06.mono (Nat.le_of_lt hl0))) (Nat.le_succ _) _ _ _ _ _ _
theorem qff{dg n i leaf:Int}{l:List Int}{b:Bool}(h:Hid (qaT dg n i leaf l=b))(v:Value)(w:World)(hv:RI w v l):
 gV 211 #[.int .i64 dg,.int .i64 n,.int .i64 i,.int .i64 leaf,v] w (.bool b):=by
 rw[←h.out];exact qi7 dg n i leaf l v w hv
theorem qez{s:ByteArray}{d:Int}(h:Hid (qbi s.data.toList=d))(w:World)(hs:s.size≤8):gS 28 #[.string s] w (.int .i64 d):=by
 rw[←h.out];exact qdt s w hs
def qg9(o:Fd)(ok:Bool)(w:World)(e:Ending)(w':World):Prop:=
 ∃ ub uh,e=.returned (.tuple #[.agg #[.int .i64 o.pub,.int .i64 o.hd.len,.int .i64 o.hd.dg,.int .i64 o.hd.sg,ub,uh],.bool ok])∧qaK w.heap.size w' o ub uh∧bB w w'
theorem FB.setAtH{B q gb n c:Nat}{w:World}{f:Fd}{vb:Value}(h:FB B q w f vb (.slice (some ⟨gb,0,none⟩) n c)){m:Nat}(hm:m<f.hv.length)(t:Bool):
 FB B q (w.setCell ⟨gb,m,none⟩ (.bool t)) {f with hv:=f.hv.set m t} vb (.slice (some ⟨gb,0,none⟩) n c):=by
 have h1:=h.fo.hv.setAt hm t;have hne:some gb≠some q:=h.nh;have h2:=h.fo.bl.grown h1.2 (O1.ne_ h.fo.bl h.fo.hv e_);exact⟨(h1.2.block q h.lt (fun e=>hne e.symm)).trans h.box,⟨h2,h1.1⟩⟩
theorem qfg{dg n i leaf:Int}{l:List Int}{b:Bool}(h:Hid (qaT dg n i leaf l=b))(v:Value)(w:World)(hv:RI w v l):
 gS 255 #[.int .i64 dg,.int .i64 n,.int .i64 i,.int .i64 leaf,v] w (.bool b):=by
 rw[←h.out];exact qi8 dg n i leaf l v w hv
theorem qjY{s:ByteArray}{d:Int}(h:Hid (qbi s.data.toList=d))(w:World)(hs:s.size≤maxLen):gS 132 #[.string s] w (.int .i64 d):=by
 rw[←h.out];exact qe7 s w hs
theorem qe0{k gb m o:Nat}{w:World}{u:Value}(hk:¬ k=gb):(w.setCell ⟨gb,m,none⟩ u).cell? ⟨k,o,none⟩=w.cell? ⟨k,o,none⟩:=World.cell?_of_block (Below.heap_setCell _ _ _ _ hk)
theorem qhn{f:Fd}{i:Int}{t:ByteArray}{proof:List Int}(h:qaq f=false∨8<t.size):qes f i t proof=(Fd.zero,false):=by
 unfold qes;rw[if_neg];rcases h with h|h
 · rw[h];simp
 · simp;intro _;exact h
theorem qcM{f:Fd}{i:Int}{t:ByteArray}{proof:List Int}(h1:qaq f=true)(h2:t.size≤8)(h:qbR f i t proof=false∨qaq (f.put i.toNat t)=false):qes f i t proof=(f,false):=by
 unfold qes;rw[if_pos (by rw[h1];simpa using h2),if_neg];rcases h with h|h <;> simp[h]
theorem qih{f:Fd}{i:Int}{t:ByteArray}{proof:List Int}(h1:qaq f=true)(h2:t.size≤8)(h3:qbR f i t proof=true)(h4:qaq (f.put i.toNat t)=true):qes f i t proof=(f.put i.toNat t,true):=by
 unfold qes;rw[if_pos (by rw[h1];simpa using h2),if_pos (by simp[h3,h4])]
theorem qk6(f:Fd)(i:Int)(t:ByteArray)(proof:List Int)(vb vh pv:Value)(w:World)(hf:qaU w f vb vh)(ht:t.size≤maxLen)(hp:RI w pv proof):
 Calls Tryz.prog 198 #[.agg #[.int .i64 f.pub,.int .i64 f.hd.len,.int .i64 f.hd.dg,.int .i64 f.hd.sg,vb,vh],.int .i64 i,.string t,pv] w (qg9 (qes f i t proof).1 (qes f i t proof).2 w):=by
 obtain⟨W0,HW0⟩:=nm_ ((w.alloc (.cells #[.int .i64 f.pub,.int .i64 f.hd.len,.int .i64 f.hd.dg,.int .i64 f.hd.sg,vb,vh] 50)).alloc (.cells #[.int .i64 0,.int .i64 0,.int .i64 0,.int .i64 0,.slice none 0 0,.slice none 0 0] 50));have HB0:Hid (bB w W0):=hI_ r_;have hs0:w.heap.size+2=W0.heap.size:=by rw[←HW0.out];simp
 have hp0:W0.heap[w.heap.size]? =some (.cells #[.int .i64 f.pub,.int .i64 f.hd.len,.int .i64 f.hd.dg,.int .i64 f.hd.sg,vb,vh] 50 (0,0)):=by
  rw[←HW0.out];exact(((bR_ (w.heap.size+1) _).alloc k_ _).block w.heap.size a_).trans (heap_alloc_new w _)
 have hz0:W0.heap[w.heap.size+1]? =some (.cells #[.int .i64 0,.int .i64 0,.int .i64 0,.int .i64 0,.slice none 0 0,.slice none 0 0] 50 (0,0)):=by
  rw[←HW0.out];have:=heap_alloc_new (w.alloc (.cells #[.int .i64 f.pub,.int .i64 f.hd.len,.int .i64 f.hd.dg,.int .i64 f.hd.sg,vb,vh] 50)) (.cells #[.int .i64 0,.int .i64 0,.int .i64 0,.int .i64 0,.slice none 0 0,.slice none 0 0] 50);simpa using this
 have HP0:=hI_ hp0;have HZ0:=hI_ hz0;have HF0:Hid (qaU W0 f vb vh):=hI_ (hf.below HB0.out);have HPR:Hid (RI W0 pv proof):=hI_ (hp.below HB0.out);have hl0:w.heap.size<W0.heap.size:=a_;have hl1:w.heap.size+1<W0.heap.size:=a_;have htm:t.size≤9223372036854775807:=by unfold maxLen at ht;omega
 obtain⟨A,c,rfl,nn1,nn2,_⟩:=hf.bl;obtain⟨B,d,rfl,_,_,_⟩:=hf.hv;have hbm:f.bl.length≤9223372036854775807:=by unfold maxLen at nn2;have:=nn1.1;omega
 obtain⟨pA,pc,rfl,_,_,_⟩:=hp;obtain⟨x0,x1,x2,x3,x4,x5,xf⟩:=qaa hp0;clear hp0 hz0 hf nn1 nn2;obtain⟨b0,HV⟩:=nm_ (qaq f);go_enter Tryz.func198,Tryz.ntmps198
 go_wp2_with fail
 rw[HW0.out];refine(qbD HV _ _ W0 HF0.out).mono ?_;rintro e w1 ⟨rfl,hb1⟩;have hp1:=(hb1.block _ hl0).trans HP0.out;have hz1:=(hb1.block _ hl1).trans HZ0.out;clear x0 x1 x2 x3 x4 x5 xf;obtain⟨x0,x1,x2,x3,x4,x5,xf⟩:=qaa hp1;obtain⟨z0,z1,z2,z3,z4,z5,zf⟩:=qaa hz1;have HP1:=hI_ hp1;have HZ1:=hI_ hz1;clear hp1 hz1;cases b0
 · have HR:=hI_ (qhn (f:=f) (i:=i) (t:=t) (proof:=proof) (.inl HV.out));go_wp2
   refine bodyPost_ret (v:=.tuple #[.agg #[.int .i64 0,.int .i64 0,.int .i64 0,.int .i64 0,.slice none 0 0,.slice none 0 0],.bool false]) bK_ rfl ⟨_,_,v_,?_,?_⟩
   · rw[HR.out];exact(qaK.set6 ⟨O1.nil _ _ _ _,O1.nil _ _ _ _⟩ hl1 _ _ _ _ _ _).mono (Nat.le_of_lt hl0)
   · exact qae (HB0.out.trans (hb1.mono (Nat.le_of_lt hl0))) (Nat.le_succ _) _ _ _ _ _ _
 by_cases ht8:8<t.size
 · have HR:=hI_ (qhn (f:=f) (i:=i) (t:=t) (proof:=proof) (.inr ht8));have ht8':(8:Int)<(t.size:Int):=a_;go_wp2
   refine bodyPost_ret (v:=.tuple #[.agg #[.int .i64 0,.int .i64 0,.int .i64 0,.int .i64 0,.slice none 0 0,.slice none 0 0],.bool false]) bK_ rfl ⟨_,_,v_,?_,?_⟩
   · rw[HR.out];exact(qaK.set6 ⟨O1.nil _ _ _ _,O1.nil _ _ _ _⟩ hl1 _ _ _ _ _ _).mono (Nat.le_of_lt hl0)
   · exact qae (HB0.out.trans (hb1.mono (Nat.le_of_lt hl0))) (Nat.le_succ _) _ _ _ _ _ _
 have ht8':¬ (8:Int)<(t.size:Int):=a_;have ht8:t.size≤8:=a_;obtain⟨l1,l16,l0⟩:=qax HV.out;have HL1:=hI_ l1;have h16:f.hv.length≤16:=a_;clear l1 l0;have HF1:Hid (qaU w1 f (.slice A f.bl.length c) (.slice B f.hv.length d)):=hI_ (HF0.out.below hb1);obtain⟨b1,HI⟩:=nm_ (inB i 0 ((f.bl.length:Int)-1));obtain⟨dd,HD⟩:=nm_ (qbi t.data.toList);go_wp2_with fail
 refine(qc1 f _ _ w1 HF1.out a_ a_).mono ?_;rintro e w2 ⟨ub,uh,rfl,ho2,hb2⟩;obtain⟨uA,uc,rfl⟩:=ho2.bl.sl;obtain⟨tA,tc,rfl⟩:=ho2.hv.sl;have hfb:=FB.made ho2;have hb3:=(hb1.trans (hb2.mono hb1.size)).alloc (Nat.le_trans hb1.size hb2.size) (.cells #[.int .i64 f.pub,.int .i64 f.hd.len,.int .i64 f.hd.dg,.int .i64 f.hd.sg,.slice uA f.bl.length uc,.slice tA f.hv.length tc] 50);clear x0 x1 x2 x3 x4 x5 xf z0 z1 z2 z3 z4 z5 zf;have hq2:W0.heap.size≤w2.heap.size:=Nat.le_trans hb1.size hb2.size;go_wp2_with fail
 obtain⟨W3,HW3⟩:=nm_ (w2.alloc (.cells #[.int .i64 f.pub,.int .i64 f.hd.len,.int .i64 f.hd.dg,.int .i64 f.hd.sg,.slice uA f.bl.length uc,.slice tA f.hv.length tc] 50));rw[HW3.out] at hfb hb3 ⊢;obtain⟨q,HQ⟩:=nm_ w2.heap.size;rw[HQ.out] at hfb hq2 ⊢;have hq1:W0.heap.size≤w1.heap.size:=hb1.size;have hfb:=FB.mono hfb hq1;clear ho2 hb2;have HPW:=hI_ (HPR.out.below hb3);have HFW:=hI_ (HF0.out.below hb3);have HPB:=hI_ ((hb3.block _ hl0).trans HP0.out);have HZB:=hI_ ((hb3.block _ hl1).trans HZ0.out);have hlW:w.heap.size<W3.heap.size:=nL_ hl0 hb3.size;obtain⟨x0,x1,x2,x3,x4,x5,xf⟩:=qaa HPB.out;cases b1
 · have HR:=hI_ (qcM (i:=i) (proof:=proof) HV.out ht8 (.inl (by unfold qbR;rw[HI.out];rfl)));have hup:=qap W3;refine qoH ?_;repeat(go_big_quiet_step (first
    |(go_at_call 124;exact qaj (qbG HI _))))
   refine wq_ fun w4 hb4=>?_;clear hup;have hb04:=hb3.trans (hb4.mono hb3.size);clear x0 x1 x2 x3 x4 x5 xf;have hfb4:=hfb.below hb4;have k0:=hfb4.c0;have k1:=hfb4.c1;have k2:=hfb4.c2;have k3:=hfb4.c3;have k4:=hfb4.c4;have k5:=hfb4.c5;obtain⟨z0,z1,z2,z3,z4,z5,zf⟩:=qaa ((hb04.block _ hl1).trans HZ0.out);go_wp2
   refine bodyPost_ret (v:=.tuple #[.agg #[.int .i64 f.pub,.int .i64 f.hd.len,.int .i64 f.hd.dg,.int .i64 f.hd.sg,.slice uA f.bl.length uc,.slice tA f.hv.length tc],.bool false]) bK_ rfl ⟨_,_,v_,?_,?_⟩
   · rw[HR.out];exact(qaK.set6 hfb4.fo hl1 _ _ _ _ _ _).mono (Nat.le_of_lt hl0)
   · exact qae (HB0.out.trans (hb04.mono (Nat.le_of_lt hl0))) (Nat.le_succ _) _ _ _ _ _ _
 have hin:=qak.1 HI.out;obtain⟨m,rfl⟩:∃ m:Nat,i=m:=⟨i.toNat,a_⟩
 have hmb:m<f.bl.length:=a_;have hmh:m<f.hv.length:=by have:=HL1.out;omega
 have hmi:(m:Int)<(f.hv.length:Int):=a_;have hmj:(m:Int)<(f.bl.length:Int):=a_;clear hin;have hcell:∃ b o,B=some ⟨b,o,none⟩∧b<W3.heap.size∧W3.cell? ⟨b,o+m,none⟩=some (.bool f.hv[m]):=by
  obtain⟨_,_,hA,_,_,hc⟩:=HFW.out.hv;cases hA;obtain⟨b,o,hA,hb,hc⟩:=hc a_;exact⟨b,o,hA,hb,hc m hmh⟩
 obtain⟨bb,oo,rfl,hbb,hcell⟩:=hcell;have HG:Hid (f.hv.getD m false=f.hv[m]):=hI_ (by rw[List.getD_eq_getElem?_getD,List.getElem?_eq_getElem hmh];rfl);obtain⟨b2,HB2⟩:=nm_ (f.hv[m]);rw[HB2.out] at hcell HG;cases b2
 rotate_left
 · have HR:=hI_ (qcM (i:=(m:Int)) (proof:=proof) HV.out ht8 (.inl (by unfold qbR;rw[Int.toNat_natCast,HG.out];simp)));have hup:=qap W3;refine qoH ?_;repeat(go_big_quiet_step (first
    |(go_at_call 124;exact qaj (qbG HI _))))
   refine wq_ fun w4 hb4=>?_;clear hup;have hb04:=hb3.trans (hb4.mono hb3.size);clear x0 x1 x2 x3 x4 x5 xf;have hfb4:=hfb.below hb4;have k0:=hfb4.c0;have k1:=hfb4.c1;have k2:=hfb4.c2;have k3:=hfb4.c3;have k4:=hfb4.c4;have k5:=hfb4.c5;obtain⟨z0,z1,z2,z3,z4,z5,zf⟩:=qaa ((hb04.block _ hl1).trans HZ0.out);go_wp2
   refine bodyPost_ret (v:=.tuple #[.agg #[.int .i64 f.pub,.int .i64 f.hd.len,.int .i64 f.hd.dg,.int .i64 f.hd.sg,.slice uA f.bl.length uc,.slice tA f.hv.length tc],.bool false]) bK_ rfl ⟨_,_,v_,?_,?_⟩
   · rw[HR.out];exact(qaK.set6 hfb4.fo hl1 _ _ _ _ _ _).mono (Nat.le_of_lt hl0)
   · exact qae (HB0.out.trans (hb04.mono (Nat.le_of_lt hl0))) (Nat.le_succ _) _ _ _ _ _ _
 obtain⟨b3,HC⟩:=nm_ (qaT f.hd.dg f.hd.len m dd proof);cases b3
 · have HR:=hI_ (qcM (i:=(m:Int)) (proof:=proof) HV.out ht8 (.inl (by unfold qbR;rw[HD.out,HC.out];simp)));have hup:=qap W3;refine qoH ?_;repeat(go_big_quiet_step (first
    |(go_at_call 124;exact qaj (qbG HI _))
    |(go_at_call 132;exact qaj (qjY HD _ ht))
    |(go_at_call 255;exact qaj (qfg HC _ _ (HPW.out.up _)))))
   refine wq_ fun w4 hb4=>?_;clear hup;have hb04:=hb3.trans (hb4.mono hb3.size);clear x0 x1 x2 x3 x4 x5 xf;have hfb4:=hfb.below hb4;have k0:=hfb4.c0;have k1:=hfb4.c1;have k2:=hfb4.c2;have k3:=hfb4.c3;have k4:=hfb4.c4;have k5:=hfb4.c5;obtain⟨z0,z1,z2,z3,z4,z5,zf⟩:=qaa ((hb04.block _ hl1).trans HZ0.out);go_wp2
   refine bodyPost_ret (v:=.tuple #[.agg #[.int .i64 f.pub,.int .i64 f.hd.len,.int .i64 f.hd.dg,.int .i64 f.hd.sg,.slice uA f.bl.length uc,.slice tA f.hv.length tc],.bool false]) bK_ rfl ⟨_,_,v_,?_,?_⟩
   · rw[HR.out];exact(qaK.set6 hfb4.fo hl1 _ _ _ _ _ _).mono (Nat.le_of_lt hl0)
   · exact qae (HB0.out.trans (hb04.mono (Nat.le_of_lt hl0))) (Nat.le_succ _) _ _ _ _ _ _
 have HMAY:Hid (qbR f m t proof=true):=hI_ (by unfold qbR;rw[HI.out,Int.toNat_natCast,HG.out,HD.out,HC.out];rfl);have hup:=qap W3;refine qoH ?_;repeat(go_big_quiet_step (first
  |(go_at_call 124;exact qaj (qbG HI _))
  |(go_at_call 132;exact qaj (qjY HD _ ht))
  |(go_at_call 255;exact qaj (qfg HC _ _ (HPW.out.up _)))))
 refine wq_ fun w4 hb4=>?_;clear hup;have hb04:=hb3.trans (hb4.mono hb3.size);clear x0 x1 x2 x3 x4 x5 xf;have hfb4:=hfb.below hb4;obtain⟨gb,cb,hA,hgb1,hgb2⟩:=hfb4.fo.bl.form a_;cases hA;obtain⟨gh,ch,hA,hgh1,hgh2⟩:=hfb4.fo.hv.form a_;cases hA;have hgbq:gb≠q:=fun e=>hfb4.nb ca_;have hghq:gh≠q:=fun e=>hfb4.nh ca_;have hgbh:gb≠gh:=by
  rcases O1.ne_ hfb4.fo.bl hfb4.fo.hv e_ with h|h
  · cases h
  · intro e;apply h;rw[e];rfl
 have hgbq':¬ q=gb:=fun e=>hgbq e.symm;have hghq':¬ q=gh:=fun e=>hghq e.symm;have hgbh':¬ gh=gb:=fun e=>hgbh e.symm;obtain⟨e1,e2⟩:=hfb4.fo.bl.at_ hmb;obtain⟨e3,e4⟩:=hfb4.fo.hv.at_ hmh;have e1':∃ u,w4.cell? ⟨gb,m,none⟩=some u:=⟨_,e1⟩
 have e3':∃ u,w4.cell? ⟨gh,m,none⟩=some u:=⟨_,e3⟩
 clear e1 e3;obtain⟨ue,e1⟩:=e1';obtain⟨ve,e3⟩:=e3';have k0:=hfb4.c0;have k1:=hfb4.c1;have k2:=hfb4.c2;have k3:=hfb4.c3;have k4:=hfb4.c4;have k5:=hfb4.c5;have hfb6:=(hfb4.setAt hmb t).setAtH (m:=m) (by show m<f.hv.length;omega) true;have hb06:=(hb04.setCell (p:=⟨gb,m,none⟩) hgb1 (.string t)).setCell (p:=⟨gh,m,none⟩) hgh1 (.bool true);have HPUT:Hid ((f.put (m:Int).toNat t)={f with bl:=f.bl.set m t,hv:=f.hv.set m true}):=hI_ rfl;obtain⟨b5,HV5⟩:=nm_ (qaq {f with bl:=f.bl.set m t,hv:=f.hv.set m true});go_wp2_with fail
 obtain⟨W7,HW7⟩:=nm_ (((w4.setCell ⟨gb,m,none⟩ (.string t)).setCell ⟨gh,m,none⟩ (.bool true)));rw[HW7.out] at hfb6 hb06 ⊢;refine(qbD HV5 _ _ W7 hfb6.fo.r).mono ?_;rintro e w8 ⟨rfl,hb8⟩;have hfb8:=hfb6.below hb8;have hb08:=hb06.trans (hb8.mono hb06.size);clear hfb6 hb06 k0 k1 k2 k3 k4 k5 e1 e2 e3 e4;cases b5
 · have HR:=hI_ (qcM (i:=(m:Int)) (proof:=proof) HV.out ht8 (.inr ba_));obtain⟨x0,x1,x2,x3,x4,x5,xf⟩:=qaa ((hb08.block _ hl0).trans HP0.out);go_wp2_with fail
   refine(qc1 f _ _ w8 (HF0.out.below hb08) a_ a_).mono ?_;rintro e w9 ⟨ub,uh,rfl,ho9,hb9⟩;obtain⟨vA,vc,rfl⟩:=ho9.bl.sl;obtain⟨yA,yc,rfl⟩:=ho9.hv.sl;have hb09:=hb08.trans (hb9.mono hb08.size);have ho9':=ho9.mono hb08.size;obtain⟨z0,z1,z2,z3,z4,z5,zf⟩:=qaa ((hb09.block _ hl1).trans HZ0.out);clear x0 x1 x2 x3 x4 x5 xf;go_wp2
   refine bodyPost_ret (v:=.tuple #[.agg #[.int .i64 f.pub,.int .i64 f.hd.len,.int .i64 f.hd.dg,.int .i64 f.hd.sg,.slice vA f.bl.length vc,.slice yA f.hv.length yc],.bool false]) bK_ rfl ⟨_,_,v_,?_,?_⟩
   · rw[HR.out];exact(qaK.set6 ho9' hl1 _ _ _ _ _ _).mono (Nat.le_of_lt hl0)
   · exact qae (HB0.out.trans (hb09.mono (Nat.le_of_lt hl0))) (Nat.le_succ _) _ _ _ _ _ _
 · have HR:=hI_ (qih (i:=(m:Int)) (proof:=proof) HV.out ht8 HMAY.out ba_);have k0:=hfb8.c0;have k1:=hfb8.c1;have k2:=hfb8.c2;have k3:=hfb8.c3;have k4:=hfb8.c4;have k5:=hfb8.c5;obtain⟨z0,z1,z2,z3,z4,z5,zf⟩:=qaa ((hb08.block _ hl1).trans HZ0.out);go_wp2
   refine bodyPost_ret (v:=.tuple #[.agg #[.int .i64 f.pub,.int .i64 f.hd.len,.int .i64 f.hd.dg,.int .i64 f.hd.sg,.slice (some ⟨gb,0,none⟩) f.bl.length uc,.slice (some ⟨gh,0,none⟩) f.hv.length tc],.bool true]) bK_ rfl ⟨_,_,v_,?_,?_⟩
   · rw[HR.out];exact(qaK.set6 hfb8.fo hl1 _ _ _ _ _ _).mono (Nat.le_of_lt hl0)
   · exact qae (HB0.out.trans (hb08.mono (Nat.le_of_lt hl0))) (Nat.le_succ _) _ _ _ _ _ _

theorem qk5(f:Fd)(i:Int)(t:ByteArray)(proof:List Int)(vb vh pv:Value)(w:World)(hf:qaU w f vb vh)(ht:t.size≤maxLen)(hp:RI w pv proof):
 Calls Tryz.prog 143 #[.agg #[.int .i64 f.pub,.int .i64 f.hd.len,.int .i64 f.hd.dg,.int .i64 f.hd.sg,vb,vh],.int .i64 i,.string t,pv] w (qg9 (qes f i t proof).1 (qes f i t proof).2 w):=by
 obtain⟨W0,HW0⟩:=nm_ ((w.alloc (.cells #[.int .i64 f.pub,.int .i64 f.hd.len,.int .i64 f.hd.dg,.int .i64 f.hd.sg,vb,vh] 50)).alloc (.cells #[.int .i64 0,.int .i64 0,.int .i64 0,.int .i64 0,.slice none 0 0,.slice none 0 0] 50));have HB0:Hid (bB w W0):=hI_ r_;have hs0:w.heap.size+2=W0.heap.size:=by rw[←HW0.out];simp
 have hp0:W0.heap[w.heap.size]? =some (.cells #[.int .i64 f.pub,.int .i64 f.hd.len,.int .i64 f.hd.dg,.int .i64 f.hd.sg,vb,vh] 50 (0,0)):=by
  rw[←HW0.out];exact(((bR_ (w.heap.size+1) _).alloc k_ _).block w.heap.size a_).trans (heap_alloc_new w _)
 have hz0:W0.heap[w.heap.size+1]? =some (.cells #[.int .i64 0,.int .i64 0,.int .i64 0,.int .i64 0,.slice none 0 0,.slice none 0 0] 50 (0,0)):=by
  rw[←HW0.out];have:=heap_alloc_new (w.alloc (.cells #[.int .i64 f.pub,.int .i64 f.hd.len,.int .i64 f.hd.dg,.int .i64 f.hd.sg,vb,vh] 50)) (.cells #[.int .i64 0,.int .i64 0,.int .i64 0,.int .i64 0,.slice none 0 0,.slice none 0 0] 50);simpa using this
 have HP0:=hI_ hp0;have HZ0:=hI_ hz0;have HF0:Hid (qaU W0 f vb vh):=hI_ (hf.below HB0.out);have HPR:Hid (RI W0 pv proof):=hI_ (hp.below HB0.out);have hl0:w.heap.size<W0.heap.size:=a_;have hl1:w.heap.size+1<W0.heap.size:=a_;have htm:t.size≤9223372036854775807:=by unfold maxLen at ht;omega
 obtain⟨A,c,rfl,nn1,nn2,_⟩:=hf.bl;obtain⟨B,d,rfl,_,_,_⟩:=hf.hv;have hbm:f.bl.length≤9223372036854775807:=by unfold maxLen at nn2;have:=nn1.1;omega
 obtain⟨pA,pc,rfl,_,_,_⟩:=hp;have x0:=qaa hp0;clear hp0 hz0 hf nn1 nn2;obtain⟨b0,HV⟩:=nm_ (qaq f);go_enter Tryz.func143,Tryz.ntmps143
 go_wp2_with fail
 rw[HW0.out];refine(qbp HV _ _ W0 HF0.out).mono ?_;rintro e w1 ⟨rfl,hb1⟩;have hp1:=(hb1.block _ hl0).trans HP0.out;have hz1:=(hb1.block _ hl1).trans HZ0.out;clear x0;have x0:=qaa hp1;obtain⟨z0,z1,z2,z3,z4,z5,zf⟩:=qaa hz1;have HP1:=hI_ hp1;have HZ1:=hI_ hz1;clear hp1 hz1;cases b0
 · have HR:=hI_ (qhn (f:=f) (i:=i) (t:=t) (proof:=proof) (.inl HV.out));go_wp2
   refine bodyPost_ret (v:=.tuple #[.agg #[.int .i64 0,.int .i64 0,.int .i64 0,.int .i64 0,.slice none 0 0,.slice none 0 0],.bool false]) bL_ rfl ⟨_,_,v_,?_,?_⟩
   · rw[HR.out];exact(qaK.set6 ⟨O1.nil _ _ _ _,O1.nil _ _ _ _⟩ hl1 _ _ _ _ _ _).mono (Nat.le_of_lt hl0)
   · exact qae (HB0.out.trans (hb1.mono (Nat.le_of_lt hl0))) (Nat.le_succ _) _ _ _ _ _ _
 by_cases ht8:8<t.size
 · have HR:=hI_ (qhn (f:=f) (i:=i) (t:=t) (proof:=proof) (.inr ht8));have ht8':(8:Int)<(t.size:Int):=a_;go_wp2
   refine bodyPost_ret (v:=.tuple #[.agg #[.int .i64 0,.int .i64 0,.int .i64 0,.int .i64 0,.slice none 0 0,.slice none 0 0],.bool false]) bL_ rfl ⟨_,_,v_,?_,?_⟩
   · rw[HR.out];exact(qaK.set6 ⟨O1.nil _ _ _ _,O1.nil _ _ _ _⟩ hl1 _ _ _ _ _ _).mono (Nat.le_of_lt hl0)
   · exact qae (HB0.out.trans (hb1.mono (Nat.le_of_lt hl0))) (Nat.le_succ _) _ _ _ _ _ _
 have ht8':¬ (8:Int)<(t.size:Int):=a_;have ht8:t.size≤8:=a_;obtain⟨l1,l16,l0⟩:=qax HV.out;have HL1:=hI_ l1;have h16:f.hv.length≤16:=a_;clear l1 l0;have HF1:Hid (qaU w1 f (.slice A f.bl.length c) (.slice B f.hv.length d)):=hI_ (HF0.out.below hb1);obtain⟨b1,HI⟩:=nm_ (inB i 0 ((f.bl.length:Int)-1));obtain⟨dd,HD⟩:=nm_ (qbi t.data.toList);have hb3:=hb1;clear x0 z0 z1 z2 z3 z4 z5 zf;go_wp2_with fail
 have HPW:=hI_ (HPR.out.below hb1);have HFW:=hI_ (HF0.out.below hb1);have HPB:=hI_ ((hb1.block _ hl0).trans HP0.out);have HZB:=hI_ ((hb1.block _ hl1).trans HZ0.out);have hlW:w.heap.size<w1.heap.size:=nL_ hl0 hb1.size;have x0:=qaa HPB.out;cases b1
 · have HR:=hI_ (qcM (i:=i) (proof:=proof) HV.out ht8 (.inl (by unfold qbR;rw[HI.out];rfl)));have hup:=qap w1;refine qoH ?_;repeat(go_big_quiet_step (first
    |(go_at_call 113;exact qaj (qbe HI _))))
   refine wq_ fun w4 hb4=>?_;clear hup;have hb04:=hb1.trans (hb4.mono hb1.size);clear x0;have x0:=qaa ((hb04.block _ hl0).trans HP0.out);go_wp2_with fail
   refine(qbV f _ _ w4 (HF0.out.below hb04) a_ a_).mono ?_;rintro e w5 ⟨ub,uh,rfl,ho5,hb5⟩;obtain⟨uA,uc,rfl⟩:=ho5.bl.sl;obtain⟨tA,tc,rfl⟩:=ho5.hv.sl;have hb05:=hb04.trans (hb5.mono hb04.size);have ho5':=ho5.mono hb04.size;obtain⟨z0,z1,z2,z3,z4,z5,zf⟩:=qaa ((hb05.block _ hl1).trans HZ0.out);clear x0;go_wp2
   refine bodyPost_ret (v:=.tuple #[.agg #[.int .i64 f.pub,.int .i64 f.hd.len,.int .i64 f.hd.dg,.int .i64 f.hd.sg,.slice uA f.bl.length uc,.slice tA f.hv.length tc],.bool false]) bL_ rfl ⟨_,_,v_,?_,?_⟩
   · rw[HR.out];exact(qaK.set6 ho5' hl1 _ _ _ _ _ _).mono (Nat.le_of_lt hl0)
   · exact qae (HB0.out.trans (hb05.mono (Nat.le_of_lt hl0))) (Nat.le_succ _) _ _ _ _ _ _
 have hin:=qak.1 HI.out;obtain⟨m,rfl⟩:∃ m:Nat,i=m:=⟨i.toNat,a_⟩
 have hmb:m<f.bl.length:=a_;have hmh:m<f.hv.length:=by have:=HL1.out;omega
 have hmi:(m:Int)<(f.hv.length:Int):=a_;have hmj:(m:Int)<(f.bl.length:Int):=a_;clear hin;have hcell:∃ b o,B=some ⟨b,o,none⟩∧b<w1.heap.size∧w1.cell? ⟨b,o+m,none⟩=some (.bool f.hv[m]):=by
  obtain⟨_,_,hA,_,_,hc⟩:=HFW.out.hv;cases hA;obtain⟨b,o,hA,hb,hc⟩:=hc a_;exact⟨b,o,hA,hb,hc m hmh⟩
 obtain⟨bb,oo,rfl,hbb,hcell⟩:=hcell;have HG:Hid (f.hv.getD m false=f.hv[m]):=hI_ (by rw[List.getD_eq_getElem?_getD,List.getElem?_eq_getElem hmh];rfl);obtain⟨b2,HB2⟩:=nm_ (f.hv[m]);rw[HB2.out] at hcell HG;cases b2
 rotate_left
 · have HR:=hI_ (qcM (i:=(m:Int)) (proof:=proof) HV.out ht8 (.inl (by unfold qbR;rw[Int.toNat_natCast,HG.out];simp)));have hup:=qap w1;refine qoH ?_;repeat(go_big_quiet_step (first
    |(go_at_call 113;exact qaj (qbe HI _))))
   refine wq_ fun w4 hb4=>?_;clear hup;have hb04:=hb1.trans (hb4.mono hb1.size);clear x0;have x0:=qaa ((hb04.block _ hl0).trans HP0.out);go_wp2_with fail
   refine(qbV f _ _ w4 (HF0.out.below hb04) a_ a_).mono ?_;rintro e w5 ⟨ub,uh,rfl,ho5,hb5⟩;obtain⟨uA,uc,rfl⟩:=ho5.bl.sl;obtain⟨tA,tc,rfl⟩:=ho5.hv.sl;have hb05:=hb04.trans (hb5.mono hb04.size);have ho5':=ho5.mono hb04.size;obtain⟨z0,z1,z2,z3,z4,z5,zf⟩:=qaa ((hb05.block _ hl1).trans HZ0.out);clear x0;go_wp2
   refine bodyPost_ret (v:=.tuple #[.agg #[.int .i64 f.pub,.int .i64 f.hd.len,.int .i64 f.hd.dg,.int .i64 f.hd.sg,.slice uA f.bl.length uc,.slice tA f.hv.length tc],.bool false]) bL_ rfl ⟨_,_,v_,?_,?_⟩
   · rw[HR.out];exact(qaK.set6 ho5' hl1 _ _ _ _ _ _).mono (Nat.le_of_lt hl0)
   · exact qae (HB0.out.trans (hb05.mono (Nat.le_of_lt hl0))) (Nat.le_succ _) _ _ _ _ _ _
 obtain⟨b3,HC⟩:=nm_ (qaT f.hd.dg f.hd.len m dd proof);cases b3
 · have HR:=hI_ (qcM (i:=(m:Int)) (proof:=proof) HV.out ht8 (.inl (by unfold qbR;rw[HD.out,HC.out];simp)));have hup:=qap w1;refine qoH ?_;repeat(go_big_quiet_step (first
    |(go_at_call 113;exact qaj (qbe HI _))
    |(go_at_call 28;exact qaj (qez HD _ ht8))
    |(go_at_call 211;exact qal (qff HC _ _ (HPW.out.up _)))))
   refine wq_ fun w4 hb4=>?_;clear hup;have hb04:=hb1.trans (hb4.mono hb1.size);clear x0;have x0:=qaa ((hb04.block _ hl0).trans HP0.out);go_wp2_with fail
   refine(qbV f _ _ w4 (HF0.out.below hb04) a_ a_).mono ?_;rintro e w5 ⟨ub,uh,rfl,ho5,hb5⟩;obtain⟨uA,uc,rfl⟩:=ho5.bl.sl;obtain⟨tA,tc,rfl⟩:=ho5.hv.sl;have hb05:=hb04.trans (hb5.mono hb04.size);have ho5':=ho5.mono hb04.size;obtain⟨z0,z1,z2,z3,z4,z5,zf⟩:=qaa ((hb05.block _ hl1).trans HZ0.out);clear x0;go_wp2
   refine bodyPost_ret (v:=.tuple #[.agg #[.int .i64 f.pub,.int .i64 f.hd.len,.int .i64 f.hd.dg,.int .i64 f.hd.sg,.slice uA f.bl.length uc,.slice tA f.hv.length tc],.bool false]) bL_ rfl ⟨_,_,v_,?_,?_⟩
   · rw[HR.out];exact(qaK.set6 ho5' hl1 _ _ _ _ _ _).mono (Nat.le_of_lt hl0)
   · exact qae (HB0.out.trans (hb05.mono (Nat.le_of_lt hl0))) (Nat.le_succ _) _ _ _ _ _ _
 have HMAY:Hid (qbR f m t proof=true):=hI_ (by unfold qbR;rw[HI.out,Int.toNat_natCast,HG.out,HD.out,HC.out];rfl);have hup:=qap w1;refine qoH ?_;repeat(go_big_quiet_step (first
  |(go_at_call 113;exact qaj (qbe HI _))
  |(go_at_call 28;exact qaj (qez HD _ ht8))
  |(go_at_call 211;exact qal (qff HC _ _ (HPW.out.up _)))))
 refine wq_ fun w4 hb4=>?_;clear hup;have hb04:=hb1.trans (hb4.mono hb1.size);clear x0;have x0:=qaa ((hb04.block _ hl0).trans HP0.out);go_wp2_with fail
 refine(qbV f _ _ w4 (HF0.out.below hb04) a_ a_).mono ?_;rintro e w5 ⟨ub,uh,rfl,ho5,hb5⟩;obtain⟨uA,uc,rfl⟩:=ho5.bl.sl;obtain⟨tA,tc,rfl⟩:=ho5.hv.sl;have hfb:=FB.made ho5;have hb6:=(hb04.trans (hb5.mono hb04.size)).alloc (Nat.le_trans hb04.size hb5.size) (.cells #[.int .i64 f.pub,.int .i64 f.hd.len,.int .i64 f.hd.dg,.int .i64 f.hd.sg,.slice uA f.bl.length uc,.slice tA f.hv.length tc] 50);have hq2:W0.heap.size≤w5.heap.size:=Nat.le_trans hb04.size hb5.size;clear x0;go_wp2_with fail
 obtain⟨W6,HW6⟩:=nm_ (w5.alloc (.cells #[.int .i64 f.pub,.int .i64 f.hd.len,.int .i64 f.hd.dg,.int .i64 f.hd.sg,.slice uA f.bl.length uc,.slice tA f.hv.length tc] 50));rw[HW6.out] at hfb hb6 ⊢;obtain⟨q,HQ⟩:=nm_ w5.heap.size;rw[HQ.out] at hfb hq2 ⊢;have hfb4:=FB.mono hfb hb04.size;have hb04':=hb6;clear ho5 hb5 hb4 hfb hb6;obtain⟨gb,cb,hA,hgb1,hgb2⟩:=hfb4.fo.bl.form a_;cases hA;obtain⟨gh,ch,hA,hgh1,hgh2⟩:=hfb4.fo.hv.form a_;cases hA;have hgbq:gb≠q:=fun e=>hfb4.nb ca_;have hghq:gh≠q:=fun e=>hfb4.nh ca_;have hgbh:gb≠gh:=by
  rcases O1.ne_ hfb4.fo.bl hfb4.fo.hv e_ with h|h
  · cases h
  · intro e;apply h;rw[e];rfl
 have hgbq':¬ q=gb:=fun e=>hgbq e.symm;have hghq':¬ q=gh:=fun e=>hghq e.symm;have hgbh':¬ gh=gb:=fun e=>hgbh e.symm;obtain⟨e1,e2⟩:=hfb4.fo.bl.at_ hmb;obtain⟨e3,e4⟩:=hfb4.fo.hv.at_ hmh;have e1':∃ u,W6.cell? ⟨gb,m,none⟩=some u:=⟨_,e1⟩
 have e3':∃ u,W6.cell? ⟨gh,m,none⟩=some u:=⟨_,e3⟩
 clear e1 e3;obtain⟨ue,e1⟩:=e1';obtain⟨ve,e3⟩:=e3';have k0:=hfb4.c0;have k1:=hfb4.c1;have k2:=hfb4.c2;have k3:=hfb4.c3;have k4:=hfb4.c4;have k5:=hfb4.c5;have hfb6:=(hfb4.setAt hmb t).setAtH (m:=m) (by show m<f.hv.length;omega) true;have hfb6:=hfb6.below (qac (bR_ _ _));have hb06:=(hb04'.setCell (p:=⟨gb,m,none⟩) hgb1 (.string t)).setCell (p:=⟨gh,m,none⟩) hgh1 (.bool true);have hb06:=qah hb06;have HPUT:Hid ((f.put (m:Int).toNat t)={f with bl:=f.bl.set m t,hv:=f.hv.set m true}):=hI_ rfl;obtain⟨b5,HV5⟩:=nm_ (qaq {f with bl:=f.bl.set m t,hv:=f.hv.set m true});have hd4:W6.drew.cell? ⟨q,4,none⟩=_:=k4;have hd5:W6.drew.cell? ⟨q,5,none⟩=_:=k5;have e1d:W6.drew.cell? ⟨gb,m,none⟩=_:=e1;have e3d:W6.drew.cell? ⟨gh,m,none⟩=_:=e3;have e2d:W6.drew.frozen? ⟨gb,m,none⟩=false:=e2;have e4d:W6.drew.frozen? ⟨gh,m,none⟩=false:=e4;go_wp2_with fail
 go_region_held3 (fun w'=>w'.cell? ⟨q,4,none⟩=some (.slice (some ⟨gb,0,none⟩) f.bl.length uc)∧w'.cell? ⟨q,5,none⟩=some (.slice (some ⟨gh,0,none⟩) f.hv.length tc))
  (first|with_reducible exact⟨hd4,hd5⟩|exact⟨(qe0 (w:=W6) (m:=m) (u:=.string t) hgbq').trans k4,(qe0 (w:=W6) (m:=m) (u:=.string t) hgbq').trans k5⟩|exact⟨(qe0 (w:=W6.setCell ⟨gb,m,none⟩ (.string t)) (m:=m) (u:=.bool true) hghq').trans ((qe0 (w:=W6) (m:=m) (u:=.string t) hgbq').trans k4),(qe0 (w:=W6.setCell ⟨gb,m,none⟩ (.string t)) (m:=m) (u:=.bool true) hghq').trans ((qe0 (w:=W6) (m:=m) (u:=.string t) hgbq').trans k5)⟩) (fail)
 go_wp2_with fail
 obtain⟨W7,HW7⟩:=nm_ (((W6.setCell ⟨gb,m,none⟩ (.string t)).setCell ⟨gh,m,none⟩ (.bool true)).drew);rw[HW7.out] at hfb6 hb06 ⊢;refine(qbp HV5 _ _ W7 hfb6.fo.r).mono ?_;rintro e w8 ⟨rfl,hb8⟩;have hfb8:=hfb6.below hb8;have hb08:=hb06.trans (hb8.mono hb06.size);clear hfb6 hb06 k0 k1 k2 k3 k4 k5 e1d e2d e3d e4d hd4 hd5 e1 e2 e3 e4;cases b5
 · have HR:=hI_ (qcM (i:=(m:Int)) (proof:=proof) HV.out ht8 (.inr ba_));have x0:=qaa ((hb08.block _ hl0).trans HP0.out);go_wp2_with fail
   refine(qbV f _ _ w8 (HF0.out.below hb08) a_ a_).mono ?_;rintro e w9 ⟨ub,uh,rfl,ho9,hb9⟩;obtain⟨vA,vc,rfl⟩:=ho9.bl.sl;obtain⟨yA,yc,rfl⟩:=ho9.hv.sl;have hb09:=hb08.trans (hb9.mono hb08.size);have ho9':=ho9.mono hb08.size;obtain⟨z0,z1,z2,z3,z4,z5,zf⟩:=qaa ((hb09.block _ hl1).trans HZ0.out);clear x0;go_wp2
   refine bodyPost_ret (v:=.tuple #[.agg #[.int .i64 f.pub,.int .i64 f.hd.len,.int .i64 f.hd.dg,.int .i64 f.hd.sg,.slice vA f.bl.length vc,.slice yA f.hv.length yc],.bool false]) bL_ rfl ⟨_,_,v_,?_,?_⟩
   · rw[HR.out];exact(qaK.set6 ho9' hl1 _ _ _ _ _ _).mono (Nat.le_of_lt hl0)
   · exact qae (HB0.out.trans (hb09.mono (Nat.le_of_lt hl0))) (Nat.le_succ _) _ _ _ _ _ _
 · have HR:=hI_ (qih (i:=(m:Int)) (proof:=proof) HV.out ht8 HMAY.out ba_);have k0:=hfb8.c0;have k1:=hfb8.c1;have k2:=hfb8.c2;have k3:=hfb8.c3;have k4:=hfb8.c4;have k5:=hfb8.c5;obtain⟨z0,z1,z2,z3,z4,z5,zf⟩:=qaa ((hb08.block _ hl1).trans HZ0.out);go_wp2
   refine bodyPost_ret (v:=.tuple #[.agg #[.int .i64 f.pub,.int .i64 f.hd.len,.int .i64 f.hd.dg,.int .i64 f.hd.sg,.slice (some ⟨gb,0,none⟩) f.bl.length uc,.slice (some ⟨gh,0,none⟩) f.hv.length tc],.bool true]) bL_ rfl ⟨_,_,v_,?_,?_⟩
   · rw[HR.out];exact(qaK.set6 hfb8.fo hl1 _ _ _ _ _ _).mono (Nat.le_of_lt hl0)
   · exact qae (HB0.out.trans (hb08.mono (Nat.le_of_lt hl0))) (Nat.le_succ _) _ _ _ _ _ _

end Go.Proofs.YtekaaekpdebloaaGreatDoor

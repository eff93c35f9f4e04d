/- Words and walks of the law. -/
import Derived.Test.YtekaaekpdebloaaGreatDoorBG
set_option linter.unusedVariables false
set_option linter.unusedSimpArgs false
namespace Go.Proofs.YtekaaekpdebloaaGreatDoor
open Go.RowKit

theorem qbb.box{g p:Nat}{a b:World}(h:qbb g a b)(hp:p<a.heap.size)(hne:p≠g):b.heap[p]? =a.heap[p]? :=h.block p hp (fun e=>hne (Option.some.inj e))
theorem qbZ{g q:Nat}{a w:World}(h:qbb g a w)(hq:a.heap.size≤q)(x0 x1 x2 x3 x4 x5:Value):qbb g a ((((((w.setCell ⟨q,0,none⟩ x0).setCell ⟨q,1,none⟩ x1).setCell ⟨q,2,none⟩ x2).setCell ⟨q,3,none⟩ x3).setCell ⟨q,4,none⟩ x4).setCell ⟨q,5,none⟩ x5):=
 (((((h.set hq _).set hq _).set hq _).set hq _).set hq _).set hq _
theorem qcw{g q P:Nat}{w:World}(h:Rdr w g P)(hq:g<q)(x0 x1 x2 x3 x4 x5:Value):Rdr ((((((w.setCell ⟨q,0,none⟩ x0).setCell ⟨q,1,none⟩ x1).setCell ⟨q,2,none⟩ x2).setCell ⟨q,3,none⟩ x3).setCell ⟨q,4,none⟩ x4).setCell ⟨q,5,none⟩ x5) g P:=
 (((((h.set hq _).set hq _).set hq _).set hq _).set hq _).set hq _
theorem qmw{ops:Array Oper}{rest:List Oper}{o:Oper}{a:Act}{Q:Exit→Act→World→Prop}{w:World}{base:Nat}{v:Value}{l:List ByteArray}{n:Nat}(hn0:w.heap.size=n)(hown:O1 Value.string base 9 w v l)(hn:l.length≤100000000000)(hbase:base≤w.heap.size){y:ByteArray}(hgd:o.guard=none){s x:Operand}
 (ho:o.op=.call {callee:=.builtin .append,args:= #[s,x],argTypes:= #[47,47]}) (hs:a.eval s=v) (hx:a.eval x=.slice (some ⟨n,0,none⟩) 1 1)
 (h:∀ v' w',O1 Value.string base 9 w' v' (l++[y])→w.grownBy w' v.ownBlock→wpList Tryz.prog ops Q rest (a.put o.dst v') w'):wpList Tryz.prog ops Q (o::rest) a (w.alloc (.cells #[.string y] 9)):=by
 subst hn0;exact qlf hown hn hbase hgd ho hs hx h
theorem FB.setAt{B q gb n c:Nat}{w:World}{f:Fd}{vh:Value}(h:FB B q w f (.slice (some ⟨gb,0,none⟩) n c) vh){m:Nat}(hm:m<f.bl.length)(t:ByteArray):
 FB B q (w.setCell ⟨gb,m,none⟩ (.string t)) {f with bl:=f.bl.set m t} (.slice (some ⟨gb,0,none⟩) n c) vh:=by
 have h1:=h.fo.bl.setAt hm t;have hne:some gb≠some q:=h.nb;have h2:=h.fo.hv.grown h1.2 (O1.ne_ h.fo.hv h.fo.bl e_);exact⟨(h1.2.block q h.lt (fun e=>hne e.symm)).trans h.box,⟨h1.1,h2⟩⟩
theorem qiC{l:List ByteArray}{m:Nat}{t:ByteArray}(h:∀ x ∈ l,x.size≤10)(ht:t.size≤10):∀ x ∈ l.set m t,x.size≤10:=fun x hx=>by
 rcases List.mem_or_eq_of_mem_set hx with hx|rfl
 · exact h x hx
 · exact ht
theorem qcN{q k:Nat}{w:World}(hk:k≠q)(x0 x1 x2 x3 x4 x5:Value):((((((w.setCell ⟨q,0,none⟩ x0).setCell ⟨q,1,none⟩ x1).setCell ⟨q,2,none⟩ x2).setCell ⟨q,3,none⟩ x3).setCell ⟨q,4,none⟩ x4).setCell ⟨q,5,none⟩ x5).heap[k]? =w.heap[k]? :=
 ((Below.heap_setCell _ _ _ _ hk).trans ((Below.heap_setCell _ _ _ _ hk).trans ((Below.heap_setCell _ _ _ _ hk).trans ((Below.heap_setCell _ _ _ _ hk).trans ((Below.heap_setCell _ _ _ _ hk).trans (Below.heap_setCell _ _ _ _ hk))))))
theorem qh5(l:List ByteArray)(v:Value)(w:World)(hv:RS w v l)(hl:l.length≤10000000000):
 Calls Tryz.prog 179 #[v] w fun e w'=>∃ v',e=.returned v'∧O1 Value.string w.heap.size 9 w' v' l∧Below w.heap.size w w':=by
 have HV:=hI_ hv;obtain⟨A,c,rfl,h1,h2,h3⟩:=hv;clear h3;go_enter Tryz.func179,Tryz.ntmps179
 go_wp2_with (first
  |(at_make;refine qlZ (n:=l.length) rfl rfl rfl rfl a_ ?_;intro v1 w1 hown1 hb1;have hr:=HV.out.below hb1)
  |(at_builtin;refine qjN hown1 hr n_ hb1.size rfl rfl rfl rfl ?_;intro v2 w2 hown2 hb2))
 go_ret;exact⟨v2,rfl,by simpa using hown2,hb1.trans hb2⟩
theorem qkt(l:List Bool)(v:Value)(w:World)(hv:RB w v l)(hl:l.length≤10000000000):
 Calls Tryz.prog 180 #[v] w fun e w'=>∃ v',e=.returned v'∧O1 Value.bool w.heap.size 4 w' v' l∧Below w.heap.size w w':=by
 have HV:=hI_ hv;obtain⟨A,c,rfl,h1,h2,h3⟩:=hv;clear h3;go_enter Tryz.func180,Tryz.ntmps180
 go_wp2_with (first
  |(at_make;refine qkP (n:=l.length) rfl rfl rfl rfl a_ ?_;intro v1 w1 hown1 hb1;have hr:=HV.out.below hb1)
  |(at_builtin;refine qh0 hown1 hr n_ hb1.size rfl rfl rfl rfl ?_;intro v2 w2 hown2 hb2))
 go_ret;exact⟨v2,rfl,by simpa using hown2,hb1.trans hb2⟩
theorem qdm{q k o:Nat}{w:World}(hk:k≠q){x0 x1 x2 x3 x4 x5:Value}:((((((w.setCell ⟨q,0,none⟩ x0).setCell ⟨q,1,none⟩ x1).setCell ⟨q,2,none⟩ x2).setCell ⟨q,3,none⟩ x3).setCell ⟨q,4,none⟩ x4).setCell ⟨q,5,none⟩ x5).cell? ⟨k,o,none⟩=w.cell? ⟨k,o,none⟩:=
 World.cell?_of_block (qcN hk x0 x1 x2 x3 x4 x5)
set_option maxHeartbeats 1600000 in
set_option maxRecDepth 100000 in
theorem qbV(f:Fd)(vb vh:Value)(w:World)(hf:qaU w f vb vh)(h1:f.bl.length≤1000000)(h2:f.hv.length≤1000000):
 Calls Tryz.prog 102 #[.agg #[.int .i64 f.pub,.int .i64 f.hd.len,.int .i64 f.hd.dg,.int .i64 f.hd.sg,vb,vh]] w (qjH f w):=by
 obtain⟨W0,HW0⟩:=nm_ ((w.alloc (.cells #[.int .i64 f.pub,.int .i64 f.hd.len,.int .i64 f.hd.dg,.int .i64 f.hd.sg,vb,vh] 50)).alloc (.cells #[.int .i64 0,.int .i64 0,.int .i64 0,.int .i64 0,.slice none 0 0,.slice none 0 0] 50));have HB0:Hid (Below w.heap.size w W0):=hI_ r_;have hs0:w.heap.size+2=W0.heap.size:=by rw[←HW0.out];simp
 have hp0:W0.heap[w.heap.size]? =some (.cells #[.int .i64 f.pub,.int .i64 f.hd.len,.int .i64 f.hd.dg,.int .i64 f.hd.sg,vb,vh] 50 (0,0)):=by
  rw[←HW0.out];exact(((bR_ (w.heap.size+1) _).alloc k_ _).block w.heap.size a_).trans (heap_alloc_new w _)
 have hz0:W0.heap[w.heap.size+1]? =some (.cells #[.int .i64 0,.int .i64 0,.int .i64 0,.int .i64 0,.slice none 0 0,.slice none 0 0] 50 (0,0)):=by
  rw[←HW0.out];have:=heap_alloc_new (w.alloc (.cells #[.int .i64 f.pub,.int .i64 f.hd.len,.int .i64 f.hd.dg,.int .i64 f.hd.sg,vb,vh] 50)) (.cells #[.int .i64 0,.int .i64 0,.int .i64 0,.int .i64 0,.slice none 0 0,.slice none 0 0] 50);simpa using this
 have HP0:=hI_ hp0;have HZ0:=hI_ hz0;have HF0:Hid (qaU W0 f vb vh):=hI_ (hf.below HB0.out);have hl0:w.heap.size<W0.heap.size:=a_;have hl1:w.heap.size+1<W0.heap.size:=a_;obtain⟨A,c,rfl,_,_,_⟩:=hf.bl;obtain⟨B,d,rfl,_,_,_⟩:=hf.hv;obtain⟨p0,p1,p2,p3,p4,p5,pf⟩:=qaa hp0;clear hp0 hz0 hf;have hbd0:=qac (bR_ W0.heap.size W0);go_enter Tryz.func102,Tryz.ntmps102
 go_wp2_with fail
 rw[HW0.out];have hpne:w.heap.size≠w.heap.size+1:=a_;have hpd:W0.drew.heap[w.heap.size]? =_:=HP0.out;obtain⟨d0,d1,d2,d3,d4,d5,df⟩:=qaa hpd;go_region_held3 (fun w'=>w'.cell? ⟨w.heap.size,0,none⟩=some (.int .i64 f.pub)∧w'.cell? ⟨w.heap.size,1,none⟩=some (.int .i64 f.hd.len)∧w'.cell? ⟨w.heap.size,2,none⟩=some (.int .i64 f.hd.dg)∧w'.cell? ⟨w.heap.size,3,none⟩=some (.int .i64 f.hd.sg)∧w'.cell? ⟨w.heap.size,4,none⟩=some (.slice A f.bl.length c)∧w'.cell? ⟨w.heap.size,5,none⟩=some (.slice B f.hv.length d)) (first|with_reducible exact⟨d0,d1,d2,d3,d4,d5⟩|with_reducible exact⟨q0,q1,q2,q3,q4,q5⟩|with_reducible exact⟨r0,r1,r2,r3,r4,r5⟩|with_reducible exact⟨(qdm hpne).trans r0,(qdm hpne).trans r1,(qdm hpne).trans r2,(qdm hpne).trans r3,(qdm hpne).trans r4,(qdm hpne).trans r5⟩)
  (first
    |(go_at_call 179;refine(qh5 f.bl _ _ (HF0.out.bl.below hbd0) a_).mono ?_;rintro e w5 ⟨v5,rfl,ho5,hb5⟩;obtain⟨sA,sn,sc,rfl,hs5⟩:=ho5.sl2;have hb05:=hbd0.trans hb5;have HP5:=hI_ ((hb05.block _ hl0).trans HP0.out);obtain⟨q0,q1,q2,q3,q4,q5,qf⟩:=qaa HP5.out)
    |(go_at_call 180;refine(qkt f.hv _ _ (HF0.out.hv.below hb05) a_).mono ?_;rintro e w6 ⟨v6,rfl,ho6,hb6⟩;obtain⟨tA,tn,tc,rfl,hs6⟩:=ho6.sl2;have hb06:=hb05.trans (hb6.mono hb05.size);have HP6:=hI_ ((hb06.block _ hl0).trans HP0.out);have HZ6:=hI_ ((hb06.block _ hl1).trans HZ0.out);obtain⟨r0,r1,r2,r3,r4,r5,rf⟩:=qaa HP6.out;obtain⟨y0,y1,y2,y3,y4,y5,yf⟩:=qaa HZ6.out))
 have hfo:qaK W0.heap.size w6 f (.slice sA sn sc) (.slice tA tn tc):=⟨(ho5.below hb6).mono hbd0.size,ho6.mono hb05.size⟩
 go_wp2
 refine bodyPost_ret (v:=.agg #[.int .i64 f.pub,.int .i64 f.hd.len,.int .i64 f.hd.dg,.int .i64 f.hd.sg,.slice sA sn sc,.slice tA tn tc]) (by simp[results,Tryz.results102,go_sem,y0,y1,y2,y3,y4,y5]) rfl ⟨_,_,rfl,?_,?_⟩
 · exact(hfo.set6 hl1 _ _ _ _ _ _).mono (Nat.le_of_lt hl0)
 · exact qae (HB0.out.trans (hb06.mono (Nat.le_of_lt hl0))) (Nat.le_succ _) _ _ _ _ _ _
end Go.Proofs.YtekaaekpdebloaaGreatDoor

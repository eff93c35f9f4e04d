/- Words and walks of the law. -/
import Derived.Test.YtekaaekpdebloaaGreatDoorBI
set_option linter.unusedVariables false
set_option linter.unusedSimpArgs false
namespace Go.Proofs.YtekaaekpdebloaaGreatDoor
open Go.RowKit

theorem ON.setb{N B n:Nat}{e:TypeId}{w:World}{v:Value}{F:Nat→Value}(h:ON N B e w v n F){p:Addr}(hp:p.block<B)(u:Value):ON N B e (w.setCell p u) v n F:=
 h.grown (qaR w p u) (.inr (fun e=>by have:=(h.lt _ e).1;omega))
theorem qb5{s b:Int}{N:Nat}(h:qfb s N b=true):key s=true∧1≤N∧N≤6∧inB (N:Int) 1 6=true∧(b= -1∨inB b 1 ((N:Int)-1)=true):=by
 unfold qfb at h;simp only[Bool.and_eq_true,Bool.or_eq_true,beq_iff_eq] at h;obtain⟨⟨h1,h2⟩,h3⟩:=h;have:=qak.1 h2;exact⟨h1,a_,a_,h2,h3⟩
theorem Em.made(g:Nat):Em (.slice (Option.some ⟨g,0,Option.none⟩) 0 0):=⟨_,_,rfl,(fun h=>aj_),s_⟩
set_option maxHeartbeats 3200000 in
set_option maxRecDepth 100000 in
theorem qdu{s b:Int}{N:Nat}(h:Hid (qfb s N b=true))(w:World):Calls Tryz.prog 55 #[.int .i64 s,.int .i64 (N:Int),.int .i64 b] w (qns true N s b (qhr s) w):=by
 obtain⟨hks,hN1,hN6,hi2,hb3⟩:=qb5 h.out;obtain⟨p,HP⟩:=nm_ (qhr s);have HK:Hid (key p=true):=hI_ (by rw[←HP.out];exact qfw hks);have H1:=hI_ hks;have H2:=hI_ hi2;rw[HP.out];clear hks hi2 h;obtain⟨W2,HW2⟩:=nm_ ((((w.alloc (.cells #[.int .i64 0,.int .i64 0,.slice none 0 0,.slice none 0 0,.slice none 0 0,.slice none 0 0] 28)).alloc (.cells #[] 99)).alloc (.cells #[] 57)).alloc (.cells #[.int .i64 s,.int .i64 b,.slice none 0 0,.slice (some ⟨w.heap.size+1,0,none⟩) 0 0,.slice none 0 0,.slice (some ⟨w.heap.size+1+1,0,none⟩) 0 0] 28));have hs2:W2.heap.size=w.heap.size+1+1+1+1:=by rw[←HW2.out];simp
 have HB2:Hid (Below w.heap.size w W2):=hI_ (by rw[←HW2.out];exact((((bR_ _ _).alloc (nr_ _) _).alloc k_ _).alloc n_ _).alloc n_ _);have hz:W2.heap[w.heap.size]? =some (.cells #[.int .i64 0,.int .i64 0,.slice none 0 0,.slice none 0 0,.slice none 0 0,.slice none 0 0] 28 (0,0)):=by
  rw[←HW2.out,heap_alloc_old _ _ n_,heap_alloc_old _ _ n_,heap_alloc_old _ _ k_];exact heap_alloc_new w _
 have hq:W2.heap[w.heap.size+1+1+1]? =some (.cells #[.int .i64 s,.int .i64 b,.slice none 0 0,.slice (some ⟨w.heap.size+1,0,none⟩) 0 0,.slice none 0 0,.slice (some ⟨w.heap.size+1+1,0,none⟩) 0 0] 28 (0,0)):=by
  rw[←HW2.out];have:=heap_alloc_new (((w.alloc (.cells #[.int .i64 0,.int .i64 0,.slice none 0 0,.slice none 0 0,.slice none 0 0,.slice none 0 0] 28)).alloc (.cells #[] 99)).alloc (.cells #[] 57)) (.cells #[.int .i64 s,.int .i64 b,.slice none 0 0,.slice (some ⟨w.heap.size+1,0,none⟩) 0 0,.slice none 0 0,.slice (some ⟨w.heap.size+1+1,0,none⟩) 0 0] 28);simpa using this
 obtain⟨q,HQ⟩:=nm_ (w.heap.size+1+1+1);have hqr:w.heap.size<q:=by rw[←HQ.out];omega
 rw[HQ.out] at hq hs2;have HZ:=hI_ hz;have HQ0:=hI_ hq;clear hz hq;have hbb:(b != -1)=false∨(b != -1)=true∧Hid (inB b 1 ((N:Int)-1)=true):=by
  rcases hb3 with rfl|hb
  · exact .inl rfl
  · by_cases h1:b= -1
    · subst h1;exact .inl rfl
    · exact .inr ⟨by rw[bne_iff_ne];exact h1,hI_ hb⟩
 clear hb3;have HN:Hid (N≤6):=hI_ hN6;rcases hbb with hbn|⟨hbn,H3⟩
 all_goals
  go_enter Tryz.func55,Tryz.ntmps55
  go_wp2_with (first
   |(go_at_call 123;refine(qbS H1 _).mono ?_;rintro e w' ⟨rfl,rfl⟩)
   |(go_at_call_of 124 (Value.int .i64 b);refine(qbG H3 _).mono ?_;rintro e w' ⟨rfl,rfl⟩)
   |(go_at_call 124;refine(qbG H2 _).mono ?_;rintro e w' ⟨rfl,rfl⟩))
  rw[HW2.out,HQ.out];clear hbn;go_loopw [9] (fun i wr=>∃ (k:Nat) (vF vA:Value) (F G:Nat→Value),k≤N∧i=.int .i64 k∧wr.heap[q]? =some (.cells #[.int .i64 s,.int .i64 b,vF,.slice (some ⟨w.heap.size+1,0,none⟩) 0 0,vA,.slice (some ⟨w.heap.size+1+1,0,none⟩) 0 0] 28 (0,0))∧ON 6 (q+1) 50 wr vF k F∧qjJ p k F∧ON 1 (q+1) 54 wr vA k G∧qk0 k G∧Below q W2 wr) (fun i _=>N-(intOf i).toNat)
  case atStart=>exact⟨0,_,_,fun _=>.int .i64 0,fun _=>.int .i64 0,Nat.zero_le _,rfl,HQ0.out,ON.nil,qjJ.zero,ON.nil,qk0.zero,bR_ _ _⟩
  case round=>
   obtain⟨k,vF,vA,F,G,hk,rfl,hbox,hoF,hF,hoA,hG,hb⟩:=hrel;obtain⟨A,c,rfl⟩:=hoF.rn.sl;obtain⟨A2,c2,rfl⟩:=hoA.rn.sl;obtain⟨x0,x1,x2,x3,x4,x5,xf⟩:=qaa hbox;have hql:q<wr.heap.size:=(Array.getElem?_eq_some_iff.1 hbox).1;by_cases hlt:k<N
   · clear x0 x1 x2 x3 x4 x5 xf;go_wp2_with (first
      |(go_at_call 126;refine(qcs HP _).mono ?_;rintro e w' ⟨rfl,rfl⟩)
      |fail)
     refine(qki HK wr).mono ?_;rintro e w1 ⟨ux,uy,rfl,hux,huy,hb1⟩;have HUX:=hI_ hux;have HUY:=hI_ huy;obtain⟨uA,uc,rfl,-,-⟩:=hux;obtain⟨uB,ud,rfl,-,-⟩:=huy;have hb2:=hb1.alloc hb1.size (.cells #[.int .i64 p,.int .i64 0,.int .i64 0,.int .i64 0,.slice uA 0 uc,.slice uB 0 ud] 50);have hbox2:=(hb2.block q hql).trans hbox;obtain⟨x0,x1,x2,x3,x4,x5,xf⟩:=qaa hbox2;have hq1:q<w1.heap.size:=nL_ hql hb1.size;have HB1:=hI_ hbox2;have hoF2:=(hoF.below hb1).below ((bR_ w1.heap.size w1).alloc (nr_ _) (.cells #[.int .i64 p,.int .i64 0,.int .i64 0,.int .i64 0,.slice uA 0 uc,.slice uB 0 ud] 50));have hoA2:=(hoA.below hb1).below ((bR_ w1.heap.size w1).alloc (nr_ _) (.cells #[.int .i64 p,.int .i64 0,.int .i64 0,.int .i64 0,.slice uA 0 uc,.slice uB 0 ud] 50));have hbs:q+1≤(w1.alloc (.cells #[.int .i64 p,.int .i64 0,.int .i64 0,.int .i64 0,.slice uA 0 uc,.slice uB 0 ud] 50)).heap.size:=by simp;omega
     have hbr2:=hb.trans (hb2.mono (Nat.le_of_lt hql));clear hb2 hbox hb hoF hoA;clear hbox2;have HOF:=hI_ hoF2;have HOA:=hI_ hoA2;clear hoF2 hoA2;go_wp2_with (first
      |(at_builtin;refine qmv HOF.out hF HUX.out HUY.out a_ hbs rfl rfl rfl rfl k_ ?_;intro A' c' w3 F' ho3 hF3 hg3 hb3;have hbox3:=(hb3.block q (Nat.lt_succ_self q)).trans HB1.out;obtain⟨y0,y1,y2,y3,y4,y5,yf⟩:=qaa hbox3;have hoA3:=HOA.out.grown hg3 (HOA.out.ne_ HOF.out e_);have hbx4:(w3.setCell ⟨q,2,none⟩ (.slice A' (k+1) c')).heap[q]? =some (.cells #[.int .i64 s,.int .i64 b,.slice A' (k+1) c',.slice (some ⟨w.heap.size+1,0,none⟩) 0 0,.slice A2 k c2,.slice (some ⟨w.heap.size+1+1,0,none⟩) 0 0] 28 (0,0)):=qas (i:=2) hbox3 (.slice A' (k+1) c');have hoF4:=ho3.setb (p:=⟨q,2,none⟩) (Nat.lt_succ_self q) (.slice A' (k+1) c');have hoA4:=(hoA3.setb (p:=⟨q,2,none⟩) (Nat.lt_succ_self q) (.slice A' (k+1) c')).below ((bR_ _ _).alloc (nr_ _) (.cells #[] 109));have hs4:q+1≤((w3.setCell ⟨q,2,none⟩ (.slice A' (k+1) c')).alloc (.cells #[] 109)).heap.size:=by(have:=(Array.getElem?_eq_some_iff.1 hbox3).1;simp;omega))
      |(at_builtin;refine qnw hoA4 hG (Em.made w3.heap.size) a_ hs4 rfl rfl rfl rfl k_ ?_;intro A4 c4 w5 G' ho5 hG5 hg5 hb5;have hbox5:=(hb5.block q (Nat.lt_succ_self q)).trans ((((bR_ _ _).alloc (nr_ _) (.cells #[] 109)).block q (Array.getElem?_eq_some_iff.1 hbx4).1).trans hbx4);obtain⟨v0,v1,v2,v3,v4,v5,vf⟩:=qaa hbox5;have hoF5:=(hoF4.below ((bR_ _ _).alloc (nr_ _) (.cells #[] 109))).grown hg5 ((hoF4.below ((bR_ _ _).alloc (nr_ _) (.cells #[] 109))).ne_ hoA4 e_);have hb4:=(((hbr2.trans (hb3.mono (Nat.le_succ q))).setCell (p:=⟨q,2,none⟩) (nr_ q) (.slice A' (k+1) c')).alloc (by(have:=hs4;simp at this ⊢;omega)) (.cells #[] 109)).trans (hb5.mono (Nat.le_succ q))))
     go_roundw
     case rel=>exact⟨k+1,_,_,F',G',a_,t_,qas (i:=4) hbox5 _,hoF5.setb (p:=⟨q,4,none⟩) (Nat.lt_succ_self q) _,hF3,ho5.setb (p:=⟨q,4,none⟩) (Nat.lt_succ_self q) _,hG5,hb4.setCell (p:=⟨q,4,none⟩) (nr_ q) _⟩
     case measure=>simp[intOf];omega
   · obtain rfl:k=N:=a_;obtain⟨z0,z1,z2,z3,z4,z5,zf⟩:=qaa ((hb.block w.heap.size hqr).trans HZ.out);go_wp2
     refine bodyPost_ret (v:=.tuple #[.agg #[.int .i64 s,.int .i64 b,.slice A k c,.slice (some ⟨w.heap.size+1,0,none⟩) 0 0,.slice A2 k c2,.slice (some ⟨w.heap.size+1+1,0,none⟩) 0 0],.bool true]) (by simp[results,Tryz.results55,go_sem,z0,z1,z2,z3,z4,z5]) rfl
      ⟨_,_,_,_,F,G,rfl,?_,hF,?_,hG,Em.made _,Em.made _,?_⟩
     · exact(((((((hoF.setb (p:=⟨w.heap.size,0,none⟩) E_ _).setb (p:=⟨w.heap.size,1,none⟩) E_ _).setb (p:=⟨w.heap.size,2,none⟩) E_ _).setb (p:=⟨w.heap.size,3,none⟩) E_ _).setb (p:=⟨w.heap.size,4,none⟩) E_ _).setb (p:=⟨w.heap.size,5,none⟩) E_ _)).mono a_
     · exact(((((((hoA.setb (p:=⟨w.heap.size,0,none⟩) E_ _).setb (p:=⟨w.heap.size,1,none⟩) E_ _).setb (p:=⟨w.heap.size,2,none⟩) E_ _).setb (p:=⟨w.heap.size,3,none⟩) E_ _).setb (p:=⟨w.heap.size,4,none⟩) E_ _).setb (p:=⟨w.heap.size,5,none⟩) E_ _)).mono a_
     · exact qae (HB2.out.trans (hb.mono (Nat.le_of_lt hqr))) (nr_ _) _ _ _ _ _ _
end Go.Proofs.YtekaaekpdebloaaGreatDoor

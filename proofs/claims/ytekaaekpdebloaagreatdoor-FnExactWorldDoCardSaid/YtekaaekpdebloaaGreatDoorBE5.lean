/- Words and walks of the law. -/
import Derived.Test.YtekaaekpdebloaaGreatDoorBD5
set_option linter.unusedVariables false
set_option linter.unusedSimpArgs false
set_option maxHeartbeats 12800000
set_option maxRecDepth 100000
namespace Go.Proofs.YtekaaekpdebloaaGreatDoor
open Go.RowKit

theorem qfq(a1 a2 a3 b1 b2 b3:Int)(w:World):
 (binOp .neq 46 (.agg #[.int .i64 a1,.int .i64 a2,.int .i64 a3]) (.agg #[.int .i64 b1,.int .i64 b2,.int .i64 b3])).run Tryz.prog w=.ok (.bool (!(a1==b1&&a2==b2&&a3==b3))) w:=by
 rw[run_neq_struct,run_equalIn_agg _ _ _ _ _ d_ d_];simp[go_sem];by_cases h1:a1=b1 <;> by_cases h2:a2=b2 <;> by_cases h3:a3=b3 <;> simp[h1,h2,h3]
theorem qbq{p:Int}{h:Hd}{b:Bool}(hh:Hid (qbE p h=b))(w:World):
 gV 150 #[.int .i64 p,.agg #[.int .i64 h.len,.int .i64 h.dg,.int .i64 h.sg]] w (.bool b):=by
 rw[←hh.out];exact qiY p h w

theorem qeK{p D S:Int}{n:Nat}(h:qbE p ⟨n,D,S⟩=true):n≤16:=by
 simp only[qbE,Bool.and_eq_true] at h;have:=qak.1 h.1.1.1.2;omega
theorem qfm{D S:Int}{n:Nat}(h:((n:Int)==0&&D==0&&S==0)=true):n≤16:=by
 simp only[Bool.and_eq_true,beq_iff_eq] at h;omega
theorem qgm{hv:List Bool}{b:Bool}(hb:Hid (qbA hv=b))(P0:Int)(h:Hd)(vb vh:Value)(w:World)(hh:RB w vh hv):
 gV 71 #[.agg #[.int .i64 P0,.int .i64 h.len,.int .i64 h.dg,.int .i64 h.sg,vb,vh]] w (.bool b):=by
 rw[←hb.out];exact qmi P0 h vb vh hv w hh

structure qaU (w:World) (f:Fd) (vb vh:Value):Prop where
 bl:RS w vb f.bl
 hv:RB w vh f.hv
theorem qaU.below{w w':World}{f:Fd}{vb vh:Value}(h:qaU w f vb vh)(hb:bB w w'):qaU w' f vb vh:=⟨h.bl.below hb,h.hv.below hb⟩
theorem qaU.alloc{w:World}{f:Fd}{vb vh:Value}(h:qaU w f vb vh)(o:Obj):qaU (w.alloc o) f vb vh:=⟨h.bl.alloc o,h.hv.alloc o⟩

theorem qiW(f:Fd)(vb vh:Value)(w:World)(hf:qaU w f vb vh):
 gV 70 #[.agg #[.int .i64 f.pub,.int .i64 f.hd.len,.int .i64 f.hd.dg,.int .i64 f.hd.sg,vb,vh]] w (.bool (qaq f)):=by
 obtain⟨p,⟨L,D,S⟩,bl,hv⟩:=f;obtain⟨hbl,hhv⟩:=hf;simp only at hbl hhv ⊢;have HB:=hI_ hbl;have HH:=hI_ hhv;obtain⟨A,c,rfl,h1,h2,h3⟩:=hbl;obtain⟨A2,cc,rfl,q1,q2,q3⟩:=hhv;have Q1:=hI_ h1;have Q2:=hI_ h3;have Q3:=hI_ q1;have Q4:=hI_ q3;unfold maxLen at h2 q2;have hbm:bl.length≤9223372036854775807:=by have:=h1.1;omega
 have hhm:hv.length≤9223372036854775807:=by have:=q1.1;omega
 clear h1 h3 q1 q3 h2 q2;obtain⟨b1,H1⟩:=nm_ (key p);obtain⟨bz,HZ⟩:=nm_ ((L==0&&D==0&&S==0));obtain⟨bc,HC⟩:=nm_ (qbE p ⟨L,D,S⟩);have HR:Hid (qaq ⟨p,⟨L,D,S⟩,bl,hv⟩=(b1&&(bz||bc)&&((bl.length:Int)==L)&&((hv.length:Int)==L)&&qaI bl hv&&(bl.length==0|| !qbA hv||qbN (lvs bl)==D))):=
  hI_ (by unfold qaq Hd.isZero;simp only[H1.out,HZ.out,HC.out])
 have HN:Hid (∀ w:World,(binOp .neq 46 (.agg #[.int .i64 L,.int .i64 D,.int .i64 S]) (.agg #[.int .i64 0,.int .i64 0,.int .i64 0])).run Tryz.prog w=.ok (.bool (!bz)) w):=
  hI_ (fun w=>by rw[qfq,HZ.out])
 cases b1
 · have HF:Hid (qaq ⟨p,⟨L,D,S⟩,bl,hv⟩=false):=hI_ (by rw[HR.out];rfl);go_enter Tryz.func70,Tryz.ntmps70
   go_wp2_with (first
    |(go_at_call 149;refine(qbK H1 _).mono ?_;rintro e w' ⟨rfl,rfl⟩)
    |(go_at_call 150;refine(qbq HC _).mono ?_;rintro e w1 ⟨rfl,hb1⟩;have hcc:=qeY hb1))
   go_ret;exact⟨qaM HF.out.symm,(bR_ _ _).alloc (nr_ _) _⟩
 cases bz
 · cases bc
   · have HF:Hid (qaq ⟨p,⟨L,D,S⟩,bl,hv⟩=false):=hI_ (by rw[HR.out];rfl);have hn:=HN.out;go_enter Tryz.func70,Tryz.ntmps70
     go_wp2_with (first
      |(go_at_call 149;refine(qbK H1 _).mono ?_;rintro e w' ⟨rfl,rfl⟩)
      |(go_at_call 150;refine(qbq HC _).mono ?_;rintro e w1 ⟨rfl,hb1⟩;have hcc:=qeY hb1))
     go_ret;exact⟨qaM HF.out.symm,((bR_ _ _).alloc (nr_ _) _).trans (hb1.mono k_)⟩
   · have hn:=HN.out;by_cases hl1:(bl.length:Int)=L
     · subst hl1;by_cases hl2:(hv.length:Int)=(bl.length:Int)
       · have hlen:hv.length=bl.length:=a_;have hn2:((hv.length:Int)!=(bl.length:Int))=false:=by simp[hl2]
         have hn1:((bl.length:Int)!=(bl.length:Int))=false:=k_;have HLL:=hI_ hlen;have HN16:bl.length≤16:=qeK HC.out;clear hlen hl2;go_enter Tryz.func70,Tryz.ntmps70
         go_wp2_with (first
          |(go_at_call 149;refine(qbK H1 _).mono ?_;rintro e w' ⟨rfl,rfl⟩)
          |(go_at_call 150;refine(qbq HC _).mono ?_;rintro e w1 ⟨rfl,hb1⟩;have hcc:=qeY hb1))
         have d0:(w.alloc (.cells #[.int .i64 p,.int .i64 (bl.length:Int),.int .i64 D,.int .i64 S,.slice A bl.length c,.slice A2 hv.length cc] 50)).cell? ⟨w.heap.size,0,none⟩=some (.int .i64 p):=cell_of_row _ _ 0 _ _ _ (heap_alloc_new w _);have d1:(w.alloc (.cells #[.int .i64 p,.int .i64 (bl.length:Int),.int .i64 D,.int .i64 S,.slice A bl.length c,.slice A2 hv.length cc] 50)).cell? ⟨w.heap.size,1,none⟩=some (.int .i64 (bl.length:Int)):=cell_of_row _ _ 1 _ _ _ (heap_alloc_new w _);have d2:(w.alloc (.cells #[.int .i64 p,.int .i64 (bl.length:Int),.int .i64 D,.int .i64 S,.slice A bl.length c,.slice A2 hv.length cc] 50)).cell? ⟨w.heap.size,2,none⟩=some (.int .i64 D):=cell_of_row _ _ 2 _ _ _ (heap_alloc_new w _);have d3:(w.alloc (.cells #[.int .i64 p,.int .i64 (bl.length:Int),.int .i64 D,.int .i64 S,.slice A bl.length c,.slice A2 hv.length cc] 50)).cell? ⟨w.heap.size,3,none⟩=some (.int .i64 S):=cell_of_row _ _ 3 _ _ _ (heap_alloc_new w _);have d4:(w.alloc (.cells #[.int .i64 p,.int .i64 (bl.length:Int),.int .i64 D,.int .i64 S,.slice A bl.length c,.slice A2 hv.length cc] 50)).cell? ⟨w.heap.size,4,none⟩=some (.slice A bl.length c):=cell_of_row _ _ 4 _ _ _ (heap_alloc_new w _);have d5:(w.alloc (.cells #[.int .i64 p,.int .i64 (bl.length:Int),.int .i64 D,.int .i64 S,.slice A bl.length c,.slice A2 hv.length cc] 50)).cell? ⟨w.heap.size,5,none⟩=some (.slice A2 hv.length cc):=cell_of_row _ _ 5 _ _ _ (heap_alloc_new w _);have hWa:w.heap.size<(w.alloc (.cells #[.int .i64 p,.int .i64 (bl.length:Int),.int .i64 D,.int .i64 S,.slice A bl.length c,.slice A2 hv.length cc] 50)).heap.size:=k_;have hbWa:=(bR_ w.heap.size w).alloc (nr_ _) (.cells #[.int .i64 p,.int .i64 (bl.length:Int),.int .i64 D,.int .i64 S,.slice A bl.length c,.slice A2 hv.length cc] 50);have c0:w1.cell? ⟨w.heap.size,0,none⟩=some (.int .i64 p):=(hb1.cell hWa).trans d0;have c1:w1.cell? ⟨w.heap.size,1,none⟩=some (.int .i64 (bl.length:Int)):=(hb1.cell hWa).trans d1;have c2:w1.cell? ⟨w.heap.size,2,none⟩=some (.int .i64 D):=(hb1.cell hWa).trans d2;have c3:w1.cell? ⟨w.heap.size,3,none⟩=some (.int .i64 S):=(hb1.cell hWa).trans d3;have c4:w1.cell? ⟨w.heap.size,4,none⟩=some (.slice A bl.length c):=(hb1.cell hWa).trans d4;have c5:w1.cell? ⟨w.heap.size,5,none⟩=some (.slice A2 hv.length cc):=(hb1.cell hWa).trans d5;have hW:w.heap.size<w1.heap.size:=nL_ hWa hb1.size;have hbW:=hbWa.trans (hb1.mono a_);clear d0 d1 d2 d3 d4 d5 hWa hbWa hcc hb1;generalize w.alloc (.cells #[.int .i64 p,.int .i64 (bl.length:Int),.int .i64 D,.int .i64 S,.slice A bl.length c,.slice A2 hv.length cc] 50)=W0 at*
         obtain⟨W,rfl⟩:∃ W:World,W=w1:=⟨_,rfl⟩
         clear hn hn1 hn2;go_loop [44] (fun i=>∃ k:Nat,k≤bl.length∧i=.int .i64 k∧Hid (qaI (bl.take k) (hv.take k)=true)) (fun i=>bl.length-(intOf i).toNat)
         case atStart=>exact⟨0,Nat.zero_le _,rfl,hI_ rfl⟩
         case round=>
          obtain⟨k,hk,rfl,HK⟩:=hrel;by_cases hlt:k<bl.length
          · have hltH:k<hv.length:=by rw[HLL.out];exact hlt
            obtain⟨_,_,hA,_,_,hcb⟩:=HB.out.below hbW;cases hA;obtain⟨b,o,rfl,hbs,hcb⟩:=hcb a_;have e1:=hcb k hlt;obtain⟨_,_,hA,_,_,hcb2⟩:=HH.out.below hbW;cases hA;obtain⟨b',o',rfl,hbs',hcb2⟩:=hcb2 a_;have e2:=hcb2 k hltH;clear hcb hcb2;have HNO:=hI_ (qeq (bl:=bl) (hv:=hv) hlt hltH);have HSN:=hI_ (qdA (bl:=bl) (hv:=hv) hlt hltH HK.out);generalize bl[k]=s at*
            generalize hv[k]=m at*
            by_cases hs8:8<s.size
            · have HF:Hid (qaq ⟨p,⟨bl.length,D,S⟩,bl,hv⟩=false):=hI_ aI_;have hs8':(8:Int)<(s.size:Int):=a_;go_wp2
              go_ret;exact⟨qaM HF.out.symm,hbW⟩
            · have hs8':¬ (8:Int)<(s.size:Int):=a_;cases m
              · by_cases hs0:s.size=0
                · have HS:=hI_ (HSN.out (qdy hs0));have hne:=qfd hs0;go_wp2
                  go_round
                  case rel=>exact⟨k+1,a_,t_,HS⟩
                  case measure=>simp[intOf];omega
                · have HF:Hid (qaq ⟨p,⟨bl.length,D,S⟩,bl,hv⟩=false):=hI_ a4_;have hne:=qex hs0;go_wp2
                  go_ret;exact⟨qaM HF.out.symm,hbW⟩
              · have HS:=hI_ (HSN.out aO_);go_wp2
                go_round
                case rel=>exact⟨k+1,a_,t_,HS⟩
                case measure=>simp[intOf];omega
          · have HKA:Hid (qaI bl hv=true):=hI_ (qdR a_ (by rw[HLL.out];omega) HK.out);have hbl16:bl.length≤16:=HN16;have HSZ:=hI_ (qcT HLL.out.symm HKA.out);have hup:=qap W;have HBW:=hI_ (HB.out.below hbW);have HHW:=hI_ (HH.out.below hbW);by_cases hz:bl.length=0
            · have hz':((bl.length:Int)==0)=true:=by simp[hz]
              have HF:Hid (qaq ⟨p,⟨bl.length,D,S⟩,bl,hv⟩=true):=hI_ a5_;clear hz;go_wp2
              refine qoH ?_;repeat(go_big_quiet_step (fail))
              refine wq_ fun w5 hb5=>?_;clear hup;go_wp2
              go_ret;exact⟨qaM HF.out.symm,hbW.trans (hb5.mono a_)⟩
            · have hz':((bl.length:Int)==0)=false:=by rw[beq_eq_false_iff_ne];omega
              obtain⟨wb,HWB⟩:=nm_ (qbA hv);cases wb
              · have HF:Hid (qaq ⟨p,⟨bl.length,D,S⟩,bl,hv⟩=true):=hI_ aR_;clear hz;go_wp2
                refine qoH ?_;repeat(go_big_quiet_step ((go_at_call 71;exact qal (qgm HWB p ⟨bl.length,D,S⟩ _ _ _ (HHW.out.up _)))))
                refine wq_ fun w5 hb5=>?_;clear hup;go_wp2
                go_ret;exact⟨qaM HF.out.symm,hbW.trans (hb5.mono a_)⟩
              · have HF:Hid (qaq ⟨p,⟨bl.length,D,S⟩,bl,hv⟩=(qbN (lvs bl)==D)):=hI_ (by
                 rw[HR.out,HKA.out,HLL.out,HWB.out,show(bl.length==0)=false by simpa using hz];simp)
                clear hz hup;go_wp2
                go_region_held3 (fun w'=>w'.cell? ⟨w.heap.size,0,none⟩=some (.int .i64 p)∧w'.cell? ⟨w.heap.size,1,none⟩=some (.int .i64 (bl.length:Int))∧w'.cell? ⟨w.heap.size,2,none⟩=some (.int .i64 D)∧w'.cell? ⟨w.heap.size,3,none⟩=some (.int .i64 S)∧w'.cell? ⟨w.heap.size,4,none⟩=some (.slice A bl.length c)∧w'.cell? ⟨w.heap.size,5,none⟩=some (.slice A2 hv.length cc)) (first|exact⟨c0,c1,c2,c3,c4,c5⟩|exact⟨g0,g1,g2,g3,g4,g5⟩|exact⟨k0,k1,k2,k3,k4,k5⟩|exact⟨l0,l1,l2,l3,l4,l5⟩)
                 (first
                   |(go_at_call 71;refine(qgm HWB p ⟨bl.length,D,S⟩ _ _ _ (HHW.out.drew)).mono ?_;rintro e w5 ⟨rfl,hb5⟩;have g0:=(hb5.cell hW).trans c0;have g1:=(hb5.cell hW).trans c1;have g2:=(hb5.cell hW).trans c2;have g3:=(hb5.cell hW).trans c3;have g4:=(hb5.cell hW).trans c4;have g5:=(hb5.cell hW).trans c5)
                   |(go_at_call 152;refine(qeb p ⟨bl.length,D,S⟩ _ _ bl _ (HBW.out.drew.below hb5) a_ HSZ.out).mono ?_;rintro e w6 ⟨v6,rfl,ho6,hb6⟩;have hb56:=qa3 hb5 hb6;have k0:=(hb56.cell hW).trans c0;have k1:=(hb56.cell hW).trans c1;have k2:=(hb56.cell hW).trans c2;have k3:=(hb56.cell hW).trans c3;have k4:=(hb56.cell hW).trans c4;have k5:=(hb56.cell hW).trans c5)
                   |(go_at_call 151;refine(qdN _ _ _ ho6.r1).mono ?_;rintro e w7 ⟨rfl,hb7⟩;have hb57:=qa3 hb56 hb7;have l0:=(hb57.cell hW).trans c0;have l1:=(hb57.cell hW).trans c1;have l2:=(hb57.cell hW).trans c2;have l3:=(hb57.cell hW).trans c3;have l4:=(hb57.cell hW).trans c4;have l5:=(hb57.cell hW).trans c5))
                have hb57':=hb57;clear c0 c1 c2 c3 c4 c5 g0 g1 g2 g3 g4 g5 k0 k1 k2 k3 k4 k5 l0 l1 l2 l3 l4 l5 hb57;go_wp2
                go_ret;exact⟨qaM HF.out.symm,hbW.trans ((qac (bR_ _ _)).trans (hb57'.mono k_) |>.mono a_)⟩
       · have HF:Hid (qaq ⟨p,⟨bl.length,D,S⟩,bl,hv⟩=false):=hI_ (by
          rw[HR.out,show((hv.length:Int)==(bl.length:Int))=false by simpa using hl2];simp)
         have hn2:((hv.length:Int)!=(bl.length:Int))=true:=by simpa using hl2
         have hn1:((bl.length:Int)!=(bl.length:Int))=false:=k_;clear hl2;go_enter Tryz.func70,Tryz.ntmps70
         go_wp2_with (first
          |(go_at_call 149;refine(qbK H1 _).mono ?_;rintro e w' ⟨rfl,rfl⟩)
          |(go_at_call 150;refine(qbq HC _).mono ?_;rintro e w1 ⟨rfl,hb1⟩;have hcc:=qeY hb1))
         go_ret;exact⟨qaM HF.out.symm,((bR_ _ _).alloc (nr_ _) _).trans (hb1.mono k_)⟩
     · have HF:Hid (qaq ⟨p,⟨L,D,S⟩,bl,hv⟩=false):=hI_ (by
        rw[HR.out,show((bl.length:Int)==L)=false by simpa using hl1];simp)
       have hn1:((bl.length:Int)!=L)=true:=by simpa using hl1
       clear hl1;go_enter Tryz.func70,Tryz.ntmps70
       go_wp2_with (first
        |(go_at_call 149;refine(qbK H1 _).mono ?_;rintro e w' ⟨rfl,rfl⟩)
        |(go_at_call 150;refine(qbq HC _).mono ?_;rintro e w1 ⟨rfl,hb1⟩;have hcc:=qeY hb1))
       go_ret;exact⟨qaM HF.out.symm,((bR_ _ _).alloc (nr_ _) _).trans (hb1.mono k_)⟩
 · have hn:=HN.out;by_cases hl1:(bl.length:Int)=L
   · subst hl1;by_cases hl2:(hv.length:Int)=(bl.length:Int)
     · have hlen:hv.length=bl.length:=a_;have hn2:((hv.length:Int)!=(bl.length:Int))=false:=by simp[hl2]
       have hn1:((bl.length:Int)!=(bl.length:Int))=false:=k_;have HLL:=hI_ hlen;have HN16:bl.length≤16:=qfm HZ.out;clear hlen hl2;go_enter Tryz.func70,Tryz.ntmps70
       go_wp2_with (first
        |(go_at_call 149;refine(qbK H1 _).mono ?_;rintro e w' ⟨rfl,rfl⟩)
        |(go_at_call 150;refine(qbq HC _).mono ?_;rintro e w1 ⟨rfl,hb1⟩;have hcc:=qeY hb1))
       have c0:(w.alloc (.cells #[.int .i64 p,.int .i64 (bl.length:Int),.int .i64 D,.int .i64 S,.slice A bl.length c,.slice A2 hv.length cc] 50)).cell? ⟨w.heap.size,0,none⟩=some (.int .i64 p):=cell_of_row _ _ 0 _ _ _ (heap_alloc_new w _);have c1:(w.alloc (.cells #[.int .i64 p,.int .i64 (bl.length:Int),.int .i64 D,.int .i64 S,.slice A bl.length c,.slice A2 hv.length cc] 50)).cell? ⟨w.heap.size,1,none⟩=some (.int .i64 (bl.length:Int)):=cell_of_row _ _ 1 _ _ _ (heap_alloc_new w _);have c2:(w.alloc (.cells #[.int .i64 p,.int .i64 (bl.length:Int),.int .i64 D,.int .i64 S,.slice A bl.length c,.slice A2 hv.length cc] 50)).cell? ⟨w.heap.size,2,none⟩=some (.int .i64 D):=cell_of_row _ _ 2 _ _ _ (heap_alloc_new w _);have c3:(w.alloc (.cells #[.int .i64 p,.int .i64 (bl.length:Int),.int .i64 D,.int .i64 S,.slice A bl.length c,.slice A2 hv.length cc] 50)).cell? ⟨w.heap.size,3,none⟩=some (.int .i64 S):=cell_of_row _ _ 3 _ _ _ (heap_alloc_new w _);have c4:(w.alloc (.cells #[.int .i64 p,.int .i64 (bl.length:Int),.int .i64 D,.int .i64 S,.slice A bl.length c,.slice A2 hv.length cc] 50)).cell? ⟨w.heap.size,4,none⟩=some (.slice A bl.length c):=cell_of_row _ _ 4 _ _ _ (heap_alloc_new w _);have c5:(w.alloc (.cells #[.int .i64 p,.int .i64 (bl.length:Int),.int .i64 D,.int .i64 S,.slice A bl.length c,.slice A2 hv.length cc] 50)).cell? ⟨w.heap.size,5,none⟩=some (.slice A2 hv.length cc):=cell_of_row _ _ 5 _ _ _ (heap_alloc_new w _);have hW:w.heap.size<(w.alloc (.cells #[.int .i64 p,.int .i64 (bl.length:Int),.int .i64 D,.int .i64 S,.slice A bl.length c,.slice A2 hv.length cc] 50)).heap.size:=k_;have hbW:=(bR_ w.heap.size w).alloc (nr_ _) (.cells #[.int .i64 p,.int .i64 (bl.length:Int),.int .i64 D,.int .i64 S,.slice A bl.length c,.slice A2 hv.length cc] 50);generalize w.alloc (.cells #[.int .i64 p,.int .i64 (bl.length:Int),.int .i64 D,.int .i64 S,.slice A bl.length c,.slice A2 hv.length cc] 50)=W at*
       clear hn hn1 hn2;go_loop [44] (fun i=>∃ k:Nat,k≤bl.length∧i=.int .i64 k∧Hid (qaI (bl.take k) (hv.take k)=true)) (fun i=>bl.length-(intOf i).toNat)
       case atStart=>exact⟨0,Nat.zero_le _,rfl,hI_ rfl⟩
       case round=>
        obtain⟨k,hk,rfl,HK⟩:=hrel;by_cases hlt:k<bl.length
        · have hltH:k<hv.length:=by rw[HLL.out];exact hlt
          obtain⟨_,_,hA,_,_,hcb⟩:=HB.out.below hbW;cases hA;obtain⟨b,o,rfl,hbs,hcb⟩:=hcb a_;have e1:=hcb k hlt;obtain⟨_,_,hA,_,_,hcb2⟩:=HH.out.below hbW;cases hA;obtain⟨b',o',rfl,hbs',hcb2⟩:=hcb2 a_;have e2:=hcb2 k hltH;clear hcb hcb2;have HNO:=hI_ (qeq (bl:=bl) (hv:=hv) hlt hltH);have HSN:=hI_ (qdA (bl:=bl) (hv:=hv) hlt hltH HK.out);generalize bl[k]=s at*
          generalize hv[k]=m at*
          by_cases hs8:8<s.size
          · have HF:Hid (qaq ⟨p,⟨bl.length,D,S⟩,bl,hv⟩=false):=hI_ aI_;have hs8':(8:Int)<(s.size:Int):=a_;go_wp2
            go_ret;exact⟨qaM HF.out.symm,hbW⟩
          · have hs8':¬ (8:Int)<(s.size:Int):=a_;cases m
            · by_cases hs0:s.size=0
              · have HS:=hI_ (HSN.out (qdy hs0));have hne:=qfd hs0;go_wp2
                go_round
                case rel=>exact⟨k+1,a_,t_,HS⟩
                case measure=>simp[intOf];omega
              · have HF:Hid (qaq ⟨p,⟨bl.length,D,S⟩,bl,hv⟩=false):=hI_ a4_;have hne:=qex hs0;go_wp2
                go_ret;exact⟨qaM HF.out.symm,hbW⟩
            · have HS:=hI_ (HSN.out aO_);go_wp2
              go_round
              case rel=>exact⟨k+1,a_,t_,HS⟩
              case measure=>simp[intOf];omega
        · have HKA:Hid (qaI bl hv=true):=hI_ (qdR a_ (by rw[HLL.out];omega) HK.out);have hbl16:bl.length≤16:=HN16;have HSZ:=hI_ (qcT HLL.out.symm HKA.out);have hup:=qap W;have HBW:=hI_ (HB.out.below hbW);have HHW:=hI_ (HH.out.below hbW);by_cases hz:bl.length=0
          · have hz':((bl.length:Int)==0)=true:=by simp[hz]
            have HF:Hid (qaq ⟨p,⟨bl.length,D,S⟩,bl,hv⟩=true):=hI_ a5_;clear hz;go_wp2
            refine qoH ?_;repeat(go_big_quiet_step (fail))
            refine wq_ fun w5 hb5=>?_;clear hup;go_wp2
            go_ret;exact⟨qaM HF.out.symm,hbW.trans (hb5.mono a_)⟩
          · have hz':((bl.length:Int)==0)=false:=by rw[beq_eq_false_iff_ne];omega
            obtain⟨wb,HWB⟩:=nm_ (qbA hv);cases wb
            · have HF:Hid (qaq ⟨p,⟨bl.length,D,S⟩,bl,hv⟩=true):=hI_ aR_;clear hz;go_wp2
              refine qoH ?_;repeat(go_big_quiet_step ((go_at_call 71;exact qal (qgm HWB p ⟨bl.length,D,S⟩ _ _ _ (HHW.out.up _)))))
              refine wq_ fun w5 hb5=>?_;clear hup;go_wp2
              go_ret;exact⟨qaM HF.out.symm,hbW.trans (hb5.mono a_)⟩
            · have HF:Hid (qaq ⟨p,⟨bl.length,D,S⟩,bl,hv⟩=(qbN (lvs bl)==D)):=hI_ (by
               rw[HR.out,HKA.out,HLL.out,HWB.out,show(bl.length==0)=false by simpa using hz];simp)
              clear hz hup;go_wp2
              go_region_held3 (fun w'=>w'.cell? ⟨w.heap.size,0,none⟩=some (.int .i64 p)∧w'.cell? ⟨w.heap.size,1,none⟩=some (.int .i64 (bl.length:Int))∧w'.cell? ⟨w.heap.size,2,none⟩=some (.int .i64 D)∧w'.cell? ⟨w.heap.size,3,none⟩=some (.int .i64 S)∧w'.cell? ⟨w.heap.size,4,none⟩=some (.slice A bl.length c)∧w'.cell? ⟨w.heap.size,5,none⟩=some (.slice A2 hv.length cc)) (first|exact⟨c0,c1,c2,c3,c4,c5⟩|exact⟨g0,g1,g2,g3,g4,g5⟩|exact⟨k0,k1,k2,k3,k4,k5⟩|exact⟨l0,l1,l2,l3,l4,l5⟩)
               (first
                 |(go_at_call 71;refine(qgm HWB p ⟨bl.length,D,S⟩ _ _ _ (HHW.out.drew)).mono ?_;rintro e w5 ⟨rfl,hb5⟩;have g0:=(hb5.cell hW).trans c0;have g1:=(hb5.cell hW).trans c1;have g2:=(hb5.cell hW).trans c2;have g3:=(hb5.cell hW).trans c3;have g4:=(hb5.cell hW).trans c4;have g5:=(hb5.cell hW).trans c5)
                 |(go_at_call 152;refine(qeb p ⟨bl.length,D,S⟩ _ _ bl _ (HBW.out.drew.below hb5) a_ HSZ.out).mono ?_;rintro e w6 ⟨v6,rfl,ho6,hb6⟩;have hb56:=qa3 hb5 hb6;have k0:=(hb56.cell hW).trans c0;have k1:=(hb56.cell hW).trans c1;have k2:=(hb56.cell hW).trans c2;have k3:=(hb56.cell hW).trans c3;have k4:=(hb56.cell hW).trans c4;have k5:=(hb56.cell hW).trans c5)
                 |(go_at_call 151;refine(qdN _ _ _ ho6.r1).mono ?_;rintro e w7 ⟨rfl,hb7⟩;have hb57:=qa3 hb56 hb7;have l0:=(hb57.cell hW).trans c0;have l1:=(hb57.cell hW).trans c1;have l2:=(hb57.cell hW).trans c2;have l3:=(hb57.cell hW).trans c3;have l4:=(hb57.cell hW).trans c4;have l5:=(hb57.cell hW).trans c5))
              have hb57':=hb57;clear c0 c1 c2 c3 c4 c5 g0 g1 g2 g3 g4 g5 k0 k1 k2 k3 k4 k5 l0 l1 l2 l3 l4 l5 hb57;go_wp2
              go_ret;exact⟨qaM HF.out.symm,hbW.trans ((qac (bR_ _ _)).trans (hb57'.mono k_) |>.mono a_)⟩
     · have HF:Hid (qaq ⟨p,⟨bl.length,D,S⟩,bl,hv⟩=false):=hI_ (by
        rw[HR.out,show((hv.length:Int)==(bl.length:Int))=false by simpa using hl2];simp)
       have hn2:((hv.length:Int)!=(bl.length:Int))=true:=by simpa using hl2
       have hn1:((bl.length:Int)!=(bl.length:Int))=false:=k_;clear hl2;go_enter Tryz.func70,Tryz.ntmps70
       go_wp2_with (first
        |(go_at_call 149;refine(qbK H1 _).mono ?_;rintro e w' ⟨rfl,rfl⟩)
        |(go_at_call 150;refine(qbq HC _).mono ?_;rintro e w1 ⟨rfl,hb1⟩;have hcc:=qeY hb1))
       go_ret;exact⟨qaM HF.out.symm,(bR_ _ _).alloc (nr_ _) _⟩
   · have HF:Hid (qaq ⟨p,⟨L,D,S⟩,bl,hv⟩=false):=hI_ (by
      rw[HR.out,show((bl.length:Int)==L)=false by simpa using hl1];simp)
     have hn1:((bl.length:Int)!=L)=true:=by simpa using hl1
     clear hl1;go_enter Tryz.func70,Tryz.ntmps70
     go_wp2_with (first
      |(go_at_call 149;refine(qbK H1 _).mono ?_;rintro e w' ⟨rfl,rfl⟩)
      |(go_at_call 150;refine(qbq HC _).mono ?_;rintro e w1 ⟨rfl,hb1⟩;have hcc:=qeY hb1))
     go_ret;exact⟨qaM HF.out.symm,(bR_ _ _).alloc (nr_ _) _⟩
theorem qcm(w:World):gV 127 #[] w (.agg #[.int .i64 0,.int .i64 0,.int .i64 0]):=by
 go_enter Tryz.func127,Tryz.ntmps127
 go_wp2
 exact bodyPost_ret (v:=.agg #[.int .i64 0,.int .i64 0,.int .i64 0]) (by simp[results,Tryz.results127,go_sem]) rfl ⟨rfl,z_⟩
theorem qcj{p:Int}{h:Hd}{b:Bool}(hh:Hid (qbE p h=b))(w:World):
 gV 128 #[.int .i64 p,.agg #[.int .i64 h.len,.int .i64 h.dg,.int .i64 h.sg]] w (.bool b):=by
 rw[←hh.out];exact qiZ p h w
theorem qe6{hv:List Bool}{b:Bool}(hb:Hid (qbA hv=b))(h16:hv.length≤16)(P0:Int)(h:Hd)(vb vh:Value)(w:World)(hh:RB w vh hv):
 gV 57 #[.agg #[.int .i64 P0,.int .i64 h.len,.int .i64 h.dg,.int .i64 h.sg,vb,vh]] w (.bool b):=by
 have e:qbA hv=(cnt hv==hv.length):=by
  unfold qbA qeG;rw[if_pos h16,Bool.eq_iff_iff];simp;omega
 rw[←hb.out,e];exact qio P0 h vb vh hv w hh

theorem qiX(f:Fd)(vb vh:Value)(w:World)(hf:qaU w f vb vh):
 gV 56 #[.agg #[.int .i64 f.pub,.int .i64 f.hd.len,.int .i64 f.hd.dg,.int .i64 f.hd.sg,vb,vh]] w (.bool (qaq f)):=by
 obtain⟨p,⟨L,D,S⟩,bl,hv⟩:=f;obtain⟨hbl,hhv⟩:=hf;simp only at hbl hhv ⊢;have HB:=hI_ hbl;have HH:=hI_ hhv;obtain⟨A,c,rfl,h1,h2,h3⟩:=hbl;obtain⟨A2,cc,rfl,q1,q2,q3⟩:=hhv;have Q1:=hI_ h1;have Q2:=hI_ h3;have Q3:=hI_ q1;have Q4:=hI_ q3;unfold maxLen at h2 q2;have hbm:bl.length≤9223372036854775807:=by have:=h1.1;omega
 have hhm:hv.length≤9223372036854775807:=by have:=q1.1;omega
 clear h1 h3 q1 q3 h2 q2;obtain⟨b1,H1⟩:=nm_ (key p);obtain⟨bz,HZ⟩:=nm_ ((L==0&&D==0&&S==0));obtain⟨bc,HC⟩:=nm_ (qbE p ⟨L,D,S⟩);have HR:Hid (qaq ⟨p,⟨L,D,S⟩,bl,hv⟩=(b1&&(bz||bc)&&((bl.length:Int)==L)&&((hv.length:Int)==L)&&qaI bl hv&&(bl.length==0|| !qbA hv||qbN (lvs bl)==D))):=
  hI_ (by unfold qaq Hd.isZero;simp only[H1.out,HZ.out,HC.out])
 have HN:Hid (∀ w:World,(binOp .neq 46 (.agg #[.int .i64 L,.int .i64 D,.int .i64 S]) (.agg #[.int .i64 0,.int .i64 0,.int .i64 0])).run Tryz.prog w=.ok (.bool (!bz)) w):=
  hI_ (fun w=>by rw[qfq,HZ.out])
 cases b1
 · have HF:Hid (qaq ⟨p,⟨L,D,S⟩,bl,hv⟩=false):=hI_ (by rw[HR.out];rfl);have hn:=HN.out;go_enter Tryz.func56,Tryz.ntmps56
   go_wp2
   have d0:(w.alloc (.cells #[.int .i64 p,.int .i64 L,.int .i64 D,.int .i64 S,.slice A bl.length c,.slice A2 hv.length cc] 50)).cell? ⟨w.heap.size,0,none⟩=some (.int .i64 p):=cell_of_row _ _ 0 _ _ _ (heap_alloc_new w _);have d1:(w.alloc (.cells #[.int .i64 p,.int .i64 L,.int .i64 D,.int .i64 S,.slice A bl.length c,.slice A2 hv.length cc] 50)).cell? ⟨w.heap.size,1,none⟩=some (.int .i64 L):=cell_of_row _ _ 1 _ _ _ (heap_alloc_new w _);have d2:(w.alloc (.cells #[.int .i64 p,.int .i64 L,.int .i64 D,.int .i64 S,.slice A bl.length c,.slice A2 hv.length cc] 50)).cell? ⟨w.heap.size,2,none⟩=some (.int .i64 D):=cell_of_row _ _ 2 _ _ _ (heap_alloc_new w _);have d3:(w.alloc (.cells #[.int .i64 p,.int .i64 L,.int .i64 D,.int .i64 S,.slice A bl.length c,.slice A2 hv.length cc] 50)).cell? ⟨w.heap.size,3,none⟩=some (.int .i64 S):=cell_of_row _ _ 3 _ _ _ (heap_alloc_new w _);have d4:(w.alloc (.cells #[.int .i64 p,.int .i64 L,.int .i64 D,.int .i64 S,.slice A bl.length c,.slice A2 hv.length cc] 50)).cell? ⟨w.heap.size,4,none⟩=some (.slice A bl.length c):=cell_of_row _ _ 4 _ _ _ (heap_alloc_new w _);have d5:(w.alloc (.cells #[.int .i64 p,.int .i64 L,.int .i64 D,.int .i64 S,.slice A bl.length c,.slice A2 hv.length cc] 50)).cell? ⟨w.heap.size,5,none⟩=some (.slice A2 hv.length cc):=cell_of_row _ _ 5 _ _ _ (heap_alloc_new w _);have hW:w.heap.size<(w.alloc (.cells #[.int .i64 p,.int .i64 L,.int .i64 D,.int .i64 S,.slice A bl.length c,.slice A2 hv.length cc] 50)).heap.size:=k_;have hbW:=(bR_ w.heap.size w).alloc (nr_ _) (.cells #[.int .i64 p,.int .i64 L,.int .i64 D,.int .i64 S,.slice A bl.length c,.slice A2 hv.length cc] 50);generalize w.alloc (.cells #[.int .i64 p,.int .i64 L,.int .i64 D,.int .i64 S,.slice A bl.length c,.slice A2 hv.length cc] 50)=W0 at*
   have hup:=qap W0;refine qoH ?_;repeat(go_big_quiet_step (first
    |(go_at_call 123;exact qaj (qbS H1 _))
    |(go_at_call 127;exact qal (qcm _))
    |(go_at_call 128;exact qal (qcj HC _))))
   refine wq_ fun W hb1=>?_;clear hup hn;have c0:=(hb1.cell hW).trans d0;have c1:=(hb1.cell hW).trans d1;have c2:=(hb1.cell hW).trans d2;have c3:=(hb1.cell hW).trans d3;have c4:=(hb1.cell hW).trans d4;have c5:=(hb1.cell hW).trans d5;have hbWW:=hbW.trans (hb1.mono a_);have hWW:=nL_ hW hb1.size;clear d0 d1 d2 d3 d4 d5 hW hbW hb1;have hW:=hWW;have hbW:=hbWW;clear hWW hbWW;go_wp2
   go_ret;exact⟨qaM HF.out.symm,hbW⟩
 cases bz
 cases bc
 · have HF:Hid (qaq ⟨p,⟨L,D,S⟩,bl,hv⟩=false):=hI_ (by rw[HR.out];rfl);have hn:=HN.out;go_enter Tryz.func56,Tryz.ntmps56
   go_wp2
   have d0:(w.alloc (.cells #[.int .i64 p,.int .i64 L,.int .i64 D,.int .i64 S,.slice A bl.length c,.slice A2 hv.length cc] 50)).cell? ⟨w.heap.size,0,none⟩=some (.int .i64 p):=cell_of_row _ _ 0 _ _ _ (heap_alloc_new w _);have d1:(w.alloc (.cells #[.int .i64 p,.int .i64 L,.int .i64 D,.int .i64 S,.slice A bl.length c,.slice A2 hv.length cc] 50)).cell? ⟨w.heap.size,1,none⟩=some (.int .i64 L):=cell_of_row _ _ 1 _ _ _ (heap_alloc_new w _);have d2:(w.alloc (.cells #[.int .i64 p,.int .i64 L,.int .i64 D,.int .i64 S,.slice A bl.length c,.slice A2 hv.length cc] 50)).cell? ⟨w.heap.size,2,none⟩=some (.int .i64 D):=cell_of_row _ _ 2 _ _ _ (heap_alloc_new w _);have d3:(w.alloc (.cells #[.int .i64 p,.int .i64 L,.int .i64 D,.int .i64 S,.slice A bl.length c,.slice A2 hv.length cc] 50)).cell? ⟨w.heap.size,3,none⟩=some (.int .i64 S):=cell_of_row _ _ 3 _ _ _ (heap_alloc_new w _);have d4:(w.alloc (.cells #[.int .i64 p,.int .i64 L,.int .i64 D,.int .i64 S,.slice A bl.length c,.slice A2 hv.length cc] 50)).cell? ⟨w.heap.size,4,none⟩=some (.slice A bl.length c):=cell_of_row _ _ 4 _ _ _ (heap_alloc_new w _);have d5:(w.alloc (.cells #[.int .i64 p,.int .i64 L,.int .i64 D,.int .i64 S,.slice A bl.length c,.slice A2 hv.length cc] 50)).cell? ⟨w.heap.size,5,none⟩=some (.slice A2 hv.length cc):=cell_of_row _ _ 5 _ _ _ (heap_alloc_new w _);have hW:w.heap.size<(w.alloc (.cells #[.int .i64 p,.int .i64 L,.int .i64 D,.int .i64 S,.slice A bl.length c,.slice A2 hv.length cc] 50)).heap.size:=k_;have hbW:=(bR_ w.heap.size w).alloc (nr_ _) (.cells #[.int .i64 p,.int .i64 L,.int .i64 D,.int .i64 S,.slice A bl.length c,.slice A2 hv.length cc] 50);generalize w.alloc (.cells #[.int .i64 p,.int .i64 L,.int .i64 D,.int .i64 S,.slice A bl.length c,.slice A2 hv.length cc] 50)=W0 at*
   have hup:=qap W0;refine qoH ?_;repeat(go_big_quiet_step (first
    |(go_at_call 123;exact qaj (qbS H1 _))
    |(go_at_call 127;exact qal (qcm _))
    |(go_at_call 128;exact qal (qcj HC _))))
   refine wq_ fun W hb1=>?_;clear hup hn;have c0:=(hb1.cell hW).trans d0;have c1:=(hb1.cell hW).trans d1;have c2:=(hb1.cell hW).trans d2;have c3:=(hb1.cell hW).trans d3;have c4:=(hb1.cell hW).trans d4;have c5:=(hb1.cell hW).trans d5;have hbWW:=hbW.trans (hb1.mono a_);have hWW:=nL_ hW hb1.size;clear d0 d1 d2 d3 d4 d5 hW hbW hb1;have hW:=hWW;have hbW:=hbWW;clear hWW hbWW;go_wp2
   go_ret;exact⟨qaM HF.out.symm,hbW⟩
 all_goals
  have hn:=HN.out;by_cases hl1:(bl.length:Int)=L
  · subst hl1;by_cases hl2:(hv.length:Int)=(bl.length:Int)
    · have hlen:hv.length=bl.length:=a_;have hn2:((hv.length:Int)!=(bl.length:Int))=false:=by simp[hl2]
      have hn1:((bl.length:Int)!=(bl.length:Int))=false:=k_;have HLL:=hI_ hlen;have HN16:bl.length≤16:=by first|exact qeK HC.out|exact qfm HZ.out
      clear hlen hl2;go_enter Tryz.func56,Tryz.ntmps56
      go_wp2
      have d0:(w.alloc (.cells #[.int .i64 p,.int .i64 (bl.length:Int),.int .i64 D,.int .i64 S,.slice A bl.length c,.slice A2 hv.length cc] 50)).cell? ⟨w.heap.size,0,none⟩=some (.int .i64 p):=cell_of_row _ _ 0 _ _ _ (heap_alloc_new w _);have d1:(w.alloc (.cells #[.int .i64 p,.int .i64 (bl.length:Int),.int .i64 D,.int .i64 S,.slice A bl.length c,.slice A2 hv.length cc] 50)).cell? ⟨w.heap.size,1,none⟩=some (.int .i64 (bl.length:Int)):=cell_of_row _ _ 1 _ _ _ (heap_alloc_new w _);have d2:(w.alloc (.cells #[.int .i64 p,.int .i64 (bl.length:Int),.int .i64 D,.int .i64 S,.slice A bl.length c,.slice A2 hv.length cc] 50)).cell? ⟨w.heap.size,2,none⟩=some (.int .i64 D):=cell_of_row _ _ 2 _ _ _ (heap_alloc_new w _);have d3:(w.alloc (.cells #[.int .i64 p,.int .i64 (bl.length:Int),.int .i64 D,.int .i64 S,.slice A bl.length c,.slice A2 hv.length cc] 50)).cell? ⟨w.heap.size,3,none⟩=some (.int .i64 S):=cell_of_row _ _ 3 _ _ _ (heap_alloc_new w _);have d4:(w.alloc (.cells #[.int .i64 p,.int .i64 (bl.length:Int),.int .i64 D,.int .i64 S,.slice A bl.length c,.slice A2 hv.length cc] 50)).cell? ⟨w.heap.size,4,none⟩=some (.slice A bl.length c):=cell_of_row _ _ 4 _ _ _ (heap_alloc_new w _);have d5:(w.alloc (.cells #[.int .i64 p,.int .i64 (bl.length:Int),.int .i64 D,.int .i64 S,.slice A bl.length c,.slice A2 hv.length cc] 50)).cell? ⟨w.heap.size,5,none⟩=some (.slice A2 hv.length cc):=cell_of_row _ _ 5 _ _ _ (heap_alloc_new w _);have hW:w.heap.size<(w.alloc (.cells #[.int .i64 p,.int .i64 (bl.length:Int),.int .i64 D,.int .i64 S,.slice A bl.length c,.slice A2 hv.length cc] 50)).heap.size:=k_;have hbW:=(bR_ w.heap.size w).alloc (nr_ _) (.cells #[.int .i64 p,.int .i64 (bl.length:Int),.int .i64 D,.int .i64 S,.slice A bl.length c,.slice A2 hv.length cc] 50);generalize w.alloc (.cells #[.int .i64 p,.int .i64 (bl.length:Int),.int .i64 D,.int .i64 S,.slice A bl.length c,.slice A2 hv.length cc] 50)=W0 at*
      have hup:=qap W0;refine qoH ?_;repeat(go_big_quiet_step (first
       |(go_at_call 123;exact qaj (qbS H1 _))
       |(go_at_call 127;exact qal (qcm _))
       |(go_at_call 128;exact qal (qcj HC _))))
      refine wq_ fun W hb1=>?_;clear hup hn;have c0:=(hb1.cell hW).trans d0;have c1:=(hb1.cell hW).trans d1;have c2:=(hb1.cell hW).trans d2;have c3:=(hb1.cell hW).trans d3;have c4:=(hb1.cell hW).trans d4;have c5:=(hb1.cell hW).trans d5;have hbWW:=hbW.trans (hb1.mono a_);have hWW:=nL_ hW hb1.size;clear d0 d1 d2 d3 d4 d5 hW hbW hb1;have hW:=hWW;have hbW:=hbWW;clear hWW hbWW;go_wp2
      clear hn1 hn2;go_loop [3] (fun i=>∃ k:Nat,k≤bl.length∧i=.int .i64 k∧Hid (qaI (bl.take k) (hv.take k)=true)) (fun i=>bl.length-(intOf i).toNat)
      case atStart=>exact⟨0,Nat.zero_le _,rfl,hI_ rfl⟩
      case round=>
       obtain⟨k,hk,rfl,HK⟩:=hrel;by_cases hlt:k<bl.length
       · have hltH:k<hv.length:=by rw[HLL.out];exact hlt
         obtain⟨_,_,hA,_,_,hcb⟩:=HB.out.below hbW;cases hA;obtain⟨b,o,rfl,hbs,hcb⟩:=hcb a_;have e1:=hcb k hlt;obtain⟨_,_,hA,_,_,hcb2⟩:=HH.out.below hbW;cases hA;obtain⟨b',o',rfl,hbs',hcb2⟩:=hcb2 a_;have e2:=hcb2 k hltH;clear hcb hcb2;have HNO:=hI_ (qeq (bl:=bl) (hv:=hv) hlt hltH);have HSN:=hI_ (qdA (bl:=bl) (hv:=hv) hlt hltH HK.out);generalize bl[k]=s at*
         generalize hv[k]=m at*
         by_cases hs8:8<s.size
         · have HF:Hid (qaq ⟨p,⟨bl.length,D,S⟩,bl,hv⟩=false):=hI_ aI_;have hs8':(8:Int)<(s.size:Int):=a_;go_wp2
           go_ret;exact⟨qaM HF.out.symm,hbW⟩
         · have hs8':¬ (8:Int)<(s.size:Int):=a_;cases m
           · by_cases hs0:s.size=0
             · have HS:=hI_ (HSN.out (qdy hs0));have hne:=qfd hs0;go_wp2
               go_round
               case rel=>exact⟨k+1,a_,t_,HS⟩
               case measure=>simp[intOf];omega
             · have HF:Hid (qaq ⟨p,⟨bl.length,D,S⟩,bl,hv⟩=false):=hI_ a4_;have hne:=qex hs0;go_wp2
               go_ret;exact⟨qaM HF.out.symm,hbW⟩
           · have HS:=hI_ (HSN.out aO_);go_wp2
             go_round
             case rel=>exact⟨k+1,a_,t_,HS⟩
             case measure=>simp[intOf];omega
       · have HKA:Hid (qaI bl hv=true):=hI_ (qdR a_ (by rw[HLL.out];omega) HK.out);have hbl16:bl.length≤16:=HN16;have h16v:hv.length≤16:=by rw[HLL.out];exact HN16
         have HSZ:=hI_ (qcT HLL.out.symm HKA.out);have hup:=qap W;have HBW:=hI_ (HB.out.below hbW);have HHW:=hI_ (HH.out.below hbW);by_cases hz:bl.length=0
         · have hz':((bl.length:Int)==0)=true:=by simp[hz]
           have HF:Hid (qaq ⟨p,⟨bl.length,D,S⟩,bl,hv⟩=true):=hI_ a5_;clear hz;go_wp2
           refine qoH ?_;repeat(go_big_quiet_step (fail))
           refine wq_ fun w5 hb5=>?_;clear hup;go_wp2
           go_ret;exact⟨qaM HF.out.symm,hbW.trans (hb5.mono a_)⟩
         · have hz':((bl.length:Int)==0)=false:=by rw[beq_eq_false_iff_ne];omega
           obtain⟨wb,HWB⟩:=nm_ (qbA hv);cases wb
           · have HF:Hid (qaq ⟨p,⟨bl.length,D,S⟩,bl,hv⟩=true):=hI_ aR_;clear hz;go_wp2
             refine qoH ?_;repeat(go_big_quiet_step ((go_at_call 57;exact qal (qe6 HWB h16v p ⟨bl.length,D,S⟩ _ _ _ (HHW.out.up _)))))
             refine wq_ fun w5 hb5=>?_;clear hup;go_wp2
             go_ret;exact⟨qaM HF.out.symm,hbW.trans (hb5.mono a_)⟩
           · have HF:Hid (qaq ⟨p,⟨bl.length,D,S⟩,bl,hv⟩=(qbN (lvs bl)==D)):=hI_ (by
              rw[HR.out,HKA.out,HLL.out,HWB.out,show(bl.length==0)=false by simpa using hz];simp)
             clear hz hup;go_wp2
             go_region_held3 (fun w'=>w'.cell? ⟨w.heap.size,0,none⟩=some (.int .i64 p)∧w'.cell? ⟨w.heap.size,1,none⟩=some (.int .i64 (bl.length:Int))∧w'.cell? ⟨w.heap.size,2,none⟩=some (.int .i64 D)∧w'.cell? ⟨w.heap.size,3,none⟩=some (.int .i64 S)∧w'.cell? ⟨w.heap.size,4,none⟩=some (.slice A bl.length c)∧w'.cell? ⟨w.heap.size,5,none⟩=some (.slice A2 hv.length cc)) (first|exact⟨c0,c1,c2,c3,c4,c5⟩|exact⟨g0,g1,g2,g3,g4,g5⟩|exact⟨k0,k1,k2,k3,k4,k5⟩|exact⟨l0,l1,l2,l3,l4,l5⟩)
              (first
                |(go_at_call 57;refine(qe6 HWB h16v p ⟨bl.length,D,S⟩ _ _ _ (HHW.out.drew)).mono ?_;rintro e w5 ⟨rfl,hb5⟩;have g0:=(hb5.cell hW).trans c0;have g1:=(hb5.cell hW).trans c1;have g2:=(hb5.cell hW).trans c2;have g3:=(hb5.cell hW).trans c3;have g4:=(hb5.cell hW).trans c4;have g5:=(hb5.cell hW).trans c5)
                |(go_at_call 130;refine(qdC bl _ _ (HBW.out.drew.below hb5) a_ (fun s hs=>Nat.le_trans (HSZ.out s hs) s_)).mono ?_;rintro e w6 ⟨v6,rfl,ho6,hb6⟩;have hb56:=qa3 hb5 hb6;have k0:=(hb56.cell hW).trans c0;have k1:=(hb56.cell hW).trans c1;have k2:=(hb56.cell hW).trans c2;have k3:=(hb56.cell hW).trans c3;have k4:=(hb56.cell hW).trans c4;have k5:=(hb56.cell hW).trans c5)
                |(go_at_call 129;refine(qfh _ _ _ ho6.r1).mono ?_;rintro e w7 ⟨rfl,hb7⟩;have hb57:=qa3 hb56 hb7;have l0:=(hb57.cell hW).trans c0;have l1:=(hb57.cell hW).trans c1;have l2:=(hb57.cell hW).trans c2;have l3:=(hb57.cell hW).trans c3;have l4:=(hb57.cell hW).trans c4;have l5:=(hb57.cell hW).trans c5))
             have hb57':=hb57;clear c0 c1 c2 c3 c4 c5 g0 g1 g2 g3 g4 g5 k0 k1 k2 k3 k4 k5 l0 l1 l2 l3 l4 l5 hb57;go_wp2
             go_ret;exact⟨qaM HF.out.symm,hbW.trans ((qac (bR_ _ _)).trans (hb57'.mono k_) |>.mono a_)⟩
    · have HF:Hid (qaq ⟨p,⟨bl.length,D,S⟩,bl,hv⟩=false):=hI_ (by
       rw[HR.out,show((hv.length:Int)==(bl.length:Int))=false by simpa using hl2];simp)
      have hn2:((hv.length:Int)!=(bl.length:Int))=true:=by simpa using hl2
      have hn1:((bl.length:Int)!=(bl.length:Int))=false:=k_;clear hl2;go_enter Tryz.func56,Tryz.ntmps56
      go_wp2
      have d0:(w.alloc (.cells #[.int .i64 p,.int .i64 (bl.length:Int),.int .i64 D,.int .i64 S,.slice A bl.length c,.slice A2 hv.length cc] 50)).cell? ⟨w.heap.size,0,none⟩=some (.int .i64 p):=cell_of_row _ _ 0 _ _ _ (heap_alloc_new w _);have d1:(w.alloc (.cells #[.int .i64 p,.int .i64 (bl.length:Int),.int .i64 D,.int .i64 S,.slice A bl.length c,.slice A2 hv.length cc] 50)).cell? ⟨w.heap.size,1,none⟩=some (.int .i64 (bl.length:Int)):=cell_of_row _ _ 1 _ _ _ (heap_alloc_new w _);have d2:(w.alloc (.cells #[.int .i64 p,.int .i64 (bl.length:Int),.int .i64 D,.int .i64 S,.slice A bl.length c,.slice A2 hv.length cc] 50)).cell? ⟨w.heap.size,2,none⟩=some (.int .i64 D):=cell_of_row _ _ 2 _ _ _ (heap_alloc_new w _);have d3:(w.alloc (.cells #[.int .i64 p,.int .i64 (bl.length:Int),.int .i64 D,.int .i64 S,.slice A bl.length c,.slice A2 hv.length cc] 50)).cell? ⟨w.heap.size,3,none⟩=some (.int .i64 S):=cell_of_row _ _ 3 _ _ _ (heap_alloc_new w _);have d4:(w.alloc (.cells #[.int .i64 p,.int .i64 (bl.length:Int),.int .i64 D,.int .i64 S,.slice A bl.length c,.slice A2 hv.length cc] 50)).cell? ⟨w.heap.size,4,none⟩=some (.slice A bl.length c):=cell_of_row _ _ 4 _ _ _ (heap_alloc_new w _);have d5:(w.alloc (.cells #[.int .i64 p,.int .i64 (bl.length:Int),.int .i64 D,.int .i64 S,.slice A bl.length c,.slice A2 hv.length cc] 50)).cell? ⟨w.heap.size,5,none⟩=some (.slice A2 hv.length cc):=cell_of_row _ _ 5 _ _ _ (heap_alloc_new w _);have hW:w.heap.size<(w.alloc (.cells #[.int .i64 p,.int .i64 (bl.length:Int),.int .i64 D,.int .i64 S,.slice A bl.length c,.slice A2 hv.length cc] 50)).heap.size:=k_;have hbW:=(bR_ w.heap.size w).alloc (nr_ _) (.cells #[.int .i64 p,.int .i64 (bl.length:Int),.int .i64 D,.int .i64 S,.slice A bl.length c,.slice A2 hv.length cc] 50);generalize w.alloc (.cells #[.int .i64 p,.int .i64 (bl.length:Int),.int .i64 D,.int .i64 S,.slice A bl.length c,.slice A2 hv.length cc] 50)=W0 at*
      have hup:=qap W0;refine qoH ?_;repeat(go_big_quiet_step (first
       |(go_at_call 123;exact qaj (qbS H1 _))
       |(go_at_call 127;exact qal (qcm _))
       |(go_at_call 128;exact qal (qcj HC _))))
      refine wq_ fun W hb1=>?_;clear hup hn;have c0:=(hb1.cell hW).trans d0;have c1:=(hb1.cell hW).trans d1;have c2:=(hb1.cell hW).trans d2;have c3:=(hb1.cell hW).trans d3;have c4:=(hb1.cell hW).trans d4;have c5:=(hb1.cell hW).trans d5;have hbWW:=hbW.trans (hb1.mono a_);have hWW:=nL_ hW hb1.size;clear d0 d1 d2 d3 d4 d5 hW hbW hb1;have hW:=hWW;have hbW:=hbWW;clear hWW hbWW;go_wp2
      go_ret;exact⟨qaM HF.out.symm,hbW⟩
  · have HF:Hid (qaq ⟨p,⟨L,D,S⟩,bl,hv⟩=false):=hI_ (by
     rw[HR.out,show((bl.length:Int)==L)=false by simpa using hl1];simp)
    have hn1:((bl.length:Int)!=L)=true:=by simpa using hl1
    clear hl1;go_enter Tryz.func56,Tryz.ntmps56
    go_wp2
    have d0:(w.alloc (.cells #[.int .i64 p,.int .i64 L,.int .i64 D,.int .i64 S,.slice A bl.length c,.slice A2 hv.length cc] 50)).cell? ⟨w.heap.size,0,none⟩=some (.int .i64 p):=cell_of_row _ _ 0 _ _ _ (heap_alloc_new w _);have d1:(w.alloc (.cells #[.int .i64 p,.int .i64 L,.int .i64 D,.int .i64 S,.slice A bl.length c,.slice A2 hv.length cc] 50)).cell? ⟨w.heap.size,1,none⟩=some (.int .i64 L):=cell_of_row _ _ 1 _ _ _ (heap_alloc_new w _);have d2:(w.alloc (.cells #[.int .i64 p,.int .i64 L,.int .i64 D,.int .i64 S,.slice A bl.length c,.slice A2 hv.length cc] 50)).cell? ⟨w.heap.size,2,none⟩=some (.int .i64 D):=cell_of_row _ _ 2 _ _ _ (heap_alloc_new w _);have d3:(w.alloc (.cells #[.int .i64 p,.int .i64 L,.int .i64 D,.int .i64 S,.slice A bl.length c,.slice A2 hv.length cc] 50)).cell? ⟨w.heap.size,3,none⟩=some (.int .i64 S):=cell_of_row _ _ 3 _ _ _ (heap_alloc_new w _);have d4:(w.alloc (.cells #[.int .i64 p,.int .i64 L,.int .i64 D,.int .i64 S,.slice A bl.length c,.slice A2 hv.length cc] 50)).cell? ⟨w.heap.size,4,none⟩=some (.slice A bl.length c):=cell_of_row _ _ 4 _ _ _ (heap_alloc_new w _);have d5:(w.alloc (.cells #[.int .i64 p,.int .i64 L,.int .i64 D,.int .i64 S,.slice A bl.length c,.slice A2 hv.length cc] 50)).cell? ⟨w.heap.size,5,none⟩=some (.slice A2 hv.length cc):=cell_of_row _ _ 5 _ _ _ (heap_alloc_new w _);have hW:w.heap.size<(w.alloc (.cells #[.int .i64 p,.int .i64 L,.int .i64 D,.int .i64 S,.slice A bl.length c,.slice A2 hv.length cc] 50)).heap.size:=k_;have hbW:=(bR_ w.heap.size w).alloc (nr_ _) (.cells #[.int .i64 p,.int .i64 L,.int .i64 D,.int .i64 S,.slice A bl.length c,.slice A2 hv.length cc] 50);generalize w.alloc (.cells #[.int .i64 p,.int .i64 L,.int .i64 D,.int .i64 S,.slice A bl.length c,.slice A2 hv.length cc] 50)=W0 at*
    have hup:=qap W0;refine qoH ?_;repeat(go_big_quiet_step (first
     |(go_at_call 123;exact qaj (qbS H1 _))
     |(go_at_call 127;exact qal (qcm _))
     |(go_at_call 128;exact qal (qcj HC _))))
    refine wq_ fun W hb1=>?_;clear hup hn;have c0:=(hb1.cell hW).trans d0;have c1:=(hb1.cell hW).trans d1;have c2:=(hb1.cell hW).trans d2;have c3:=(hb1.cell hW).trans d3;have c4:=(hb1.cell hW).trans d4;have c5:=(hb1.cell hW).trans d5;have hbWW:=hbW.trans (hb1.mono a_);have hWW:=nL_ hW hb1.size;clear d0 d1 d2 d3 d4 d5 hW hbW hb1;have hW:=hWW;have hbW:=hbWW;clear hWW hbWW;go_wp2
    go_ret;exact⟨qaM HF.out.symm,hbW⟩
end Go.Proofs.YtekaaekpdebloaaGreatDoor

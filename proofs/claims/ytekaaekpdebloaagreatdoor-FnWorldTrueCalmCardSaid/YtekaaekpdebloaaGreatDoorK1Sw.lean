/- Words and walks of the law. -/
import Derived.Test.YtekaaekpdebloaaGreatDoorCH5
set_option linter.unusedVariables false
set_option linter.unusedSimpArgs false
set_option maxHeartbeats 12800000
set_option maxRecDepth 100000
namespace Go.Proofs.YtekaaekpdebloaaGreatDoor
open Go.RowKit

section
variable {α:Type} {enc:α→Value} {w w':World} {v:Value} {l:List α}

end

section
variable {α:Type} {e1 e2:α→Value} {w w':World} {v:Value} {l:List α}
theorem R2.alloc(h:R2 e1 e2 w v l)(o:Obj):R2 e1 e2 (w.alloc o) v l:=h.below ((bR_ _ _).alloc (nr_ _) o)
end

theorem qhF(l:List Int)(va vb:Value)(w:World)(ha:R1 (Value.int .i64) w va l)(hb:R1 (Value.int .i64) w vb l):
 gV 26 #[va,vb] w (.bool true):=by
 have HA:=hI_ ha;have HB:=hI_ hb;have hm:=ha.len;obtain⟨A,c,rfl,h1,h2,h3⟩:=ha;obtain⟨A2,c2,rfl,q1,q2,q3⟩:=hb;unfold maxLen at hm;clear h3 q3 h1 q1 h2 q2;have hnn:((l.length:Int)!=(l.length:Int))=false:=k_;go_enter Tryz.func26,Tryz.ntmps26
 go_wp2
 go_loopw [5] (fun i wr=>∃ k:Nat,k≤l.length∧i=.int .i64 k∧bB w wr) (fun i _=>l.length-(intOf i).toNat)
 case atStart=>exact⟨0,Nat.zero_le _,rfl,bR_ _ _⟩
 case round=>
  obtain⟨k,hk,rfl,hbw⟩:=hrel;by_cases hlt:k<l.length
  · obtain⟨_,_,hA,_,_,hc⟩:=HA.out.below hbw;cases hA;obtain⟨b,o,rfl,hbs,hc⟩:=hc a_;have e1:=hc k hlt;obtain⟨_,_,hA,_,_,hc2⟩:=HB.out.below hbw;cases hA;obtain⟨b',o',rfl,hbs',hc2⟩:=hc2 a_;have e2:=hc2 k hlt;clear hc hc2;generalize l[k]=x at*
    have hup:=qap wr;have hki:(k:Int)<(l.length:Int):=a_;have hk0:(0:Int)≤(k:Int):=a_;go_wp2
    refine qoH ?_;repeat(go_big_quiet_step (fail))
    refine wq_ fun w1 hb1=>?_;clear hup;go_wp2
    go_roundw
    case rel=>exact⟨k+1,a_,t_,hbw.trans (hb1.mono hbw.size)⟩
    case measure=>simp[intOf];omega
  · go_wp2
    go_ret;exact⟨rfl,hbw⟩

theorem qgy(l:List ByteArray)(va vb:Value)(w:World)(ha:R1 (Value.string) w va l)(hb:R1 (Value.string) w vb l):
 gV 64 #[va,vb] w (.bool true):=by
 have HA:=hI_ ha;have HB:=hI_ hb;have hm:=ha.len;obtain⟨A,c,rfl,h1,h2,h3⟩:=ha;obtain⟨A2,c2,rfl,q1,q2,q3⟩:=hb;unfold maxLen at hm;clear h3 q3 h1 q1 h2 q2;have hnn:((l.length:Int)!=(l.length:Int))=false:=k_;go_enter Tryz.func64,Tryz.ntmps64
 go_wp2
 go_loopw [5] (fun i wr=>∃ k:Nat,k≤l.length∧i=.int .i64 k∧bB w wr) (fun i _=>l.length-(intOf i).toNat)
 case atStart=>exact⟨0,Nat.zero_le _,rfl,bR_ _ _⟩
 case round=>
  obtain⟨k,hk,rfl,hbw⟩:=hrel;by_cases hlt:k<l.length
  · obtain⟨_,_,hA,_,_,hc⟩:=HA.out.below hbw;cases hA;obtain⟨b,o,rfl,hbs,hc⟩:=hc a_;have e1:=hc k hlt;obtain⟨_,_,hA,_,_,hc2⟩:=HB.out.below hbw;cases hA;obtain⟨b',o',rfl,hbs',hc2⟩:=hc2 a_;have e2:=hc2 k hlt;clear hc hc2;generalize l[k]=x at*
    have hup:=qap wr;have hki:(k:Int)<(l.length:Int):=a_;have hk0:(0:Int)≤(k:Int):=a_;go_wp2
    refine qoH ?_;repeat(go_big_quiet_step (fail))
    refine wq_ fun w1 hb1=>?_;clear hup;go_wp2
    go_roundw
    case rel=>exact⟨k+1,a_,t_,hbw.trans (hb1.mono hbw.size)⟩
    case measure=>simp[intOf];omega
  · go_wp2
    go_ret;exact⟨rfl,hbw⟩

theorem qgx(l:List Bool)(va vb:Value)(w:World)(ha:R1 (Value.bool) w va l)(hb:R1 (Value.bool) w vb l):
 gV 65 #[va,vb] w (.bool true):=by
 have HA:=hI_ ha;have HB:=hI_ hb;have hm:=ha.len;obtain⟨A,c,rfl,h1,h2,h3⟩:=ha;obtain⟨A2,c2,rfl,q1,q2,q3⟩:=hb;unfold maxLen at hm;clear h3 q3 h1 q1 h2 q2;have hnn:((l.length:Int)!=(l.length:Int))=false:=k_;go_enter Tryz.func65,Tryz.ntmps65
 go_wp2
 go_loopw [5] (fun i wr=>∃ k:Nat,k≤l.length∧i=.int .i64 k∧bB w wr) (fun i _=>l.length-(intOf i).toNat)
 case atStart=>exact⟨0,Nat.zero_le _,rfl,bR_ _ _⟩
 case round=>
  obtain⟨k,hk,rfl,hbw⟩:=hrel;by_cases hlt:k<l.length
  · obtain⟨_,_,hA,_,_,hc⟩:=HA.out.below hbw;cases hA;obtain⟨b,o,rfl,hbs,hc⟩:=hc a_;have e1:=hc k hlt;obtain⟨_,_,hA,_,_,hc2⟩:=HB.out.below hbw;cases hA;obtain⟨b',o',rfl,hbs',hc2⟩:=hc2 a_;have e2:=hc2 k hlt;clear hc hc2;generalize l[k]=x at*
    have hup:=qap wr;have hki:(k:Int)<(l.length:Int):=a_;have hk0:(0:Int)≤(k:Int):=a_;go_wp2
    refine qoH ?_;repeat(go_big_quiet_step (fail))
    refine wq_ fun w1 hb1=>?_;clear hup;go_wp2
    go_roundw
    case rel=>exact⟨k+1,a_,t_,hbw.trans (hb1.mono hbw.size)⟩
    case measure=>simp[intOf];omega
  · go_wp2
    go_ret;exact⟨rfl,hbw⟩

theorem qeR(f:Fd)(va vb ua ub:Value)(w:World)(ha:qaU w f va vb)(hb:qaU w f ua ub):
 gV 29 #[.agg #[.int .i64 f.pub,.int .i64 f.hd.len,.int .i64 f.hd.dg,.int .i64 f.hd.sg,va,vb],.agg #[.int .i64 f.pub,.int .i64 f.hd.len,.int .i64 f.hd.dg,.int .i64 f.hd.sg,ua,ub]] w (.bool true):=by
 have HA:=hI_ ((ha.alloc (.cells #[.int .i64 f.pub,.int .i64 f.hd.len,.int .i64 f.hd.dg,.int .i64 f.hd.sg,va,vb] 50)).alloc (.cells #[.int .i64 f.pub,.int .i64 f.hd.len,.int .i64 f.hd.dg,.int .i64 f.hd.sg,ua,ub] 50));have HB:=hI_ ((hb.alloc (.cells #[.int .i64 f.pub,.int .i64 f.hd.len,.int .i64 f.hd.dg,.int .i64 f.hd.sg,va,vb] 50)).alloc (.cells #[.int .i64 f.pub,.int .i64 f.hd.len,.int .i64 f.hd.dg,.int .i64 f.hd.sg,ua,ub] 50));have hpp:(f.pub==f.pub)=true:=k_;go_enter Tryz.func29,Tryz.ntmps29
 go_wp2_with (first
  |(go_at_call 64;refine(qgy f.bl _ _ _ HA.out.bl HB.out.bl).mono ?_;rintro e w2 ⟨rfl,hb2⟩;have hcc2:=qeY hb2)
  |(go_at_call 65;refine(qgx f.hv _ _ _ (HA.out.below hb2).hv (HB.out.below hb2).hv).mono ?_;rintro e w3 ⟨rfl,hb3⟩;have hb13:=qa3 hb2 hb3))
 go_ret;exact⟨rfl,(((bR_ _ _).alloc (nr_ _) _).alloc k_ _).trans (hb13.mono n_)⟩
theorem Mid.grown{B1 B2:Nat}{a b:World}{row:Option Nat}(h:a.grownBy b row)(hr:∀ k,row=some k→B1≤k∧k<B2):Mid B1 B2 a b:=
 ⟨h.os,h.tape,h.output,h.size,fun k hk hd=>h.block k hk (fun e=>by have:=hr k e.symm;omega)⟩
theorem Mid.setCell{B1 B2:Nat}{a w:World}(h:Mid B1 B2 a w){p:Addr}(h1:B1≤p.block)(h2:p.block<B2)(u:Value):Mid B1 B2 a (w.setCell p u):=
 h.trans ⟨rfl,rfl,rfl,a0_,fun k _ hd=>Below.heap_setCell _ _ _ _ a_⟩
def qqx{α:Type}(enc:α→Value)(e:TypeId)(g:Nat)(w:World)(l:List α)(k:Nat):Prop:=
 ∃ cur:Array Value,w.heap[g]? =some (.cells cur e (0,0))∧cur.size=l.length∧∀ j (hj:j<l.length),j<k→cur[j]? =some (enc l[j])
theorem qqx.cell{α:Type}{enc:α→Value}{e:TypeId}{g:Nat}{w:World}{l:List α}{k:Nat}(h:qqx enc e g w l k){j:Nat}(hj:j<l.length):(∃ u,w.cell? ⟨g,j,none⟩=some u)∧w.frozen? ⟨g,j,none⟩=false:=by
 obtain⟨cur,h1,h2,h3⟩:=h;exact⟨⟨cur[j]'(by omega),by rw[cell_of_row w g j cur e (0,0) h1];simp[h2,hj]⟩,by simp[World.frozen?,h1]⟩
def qms(g P:Nat)(n:Int)(w:World)(e:Ending)(w':World):Prop:=
 ∃ x:Int,e=.returned (.int .i64 x)∧0≤x∧x<n∧Rdr w' g (P+1)∧qbb g w w'

theorem qmS{w w':World}{g P p c:Nat}{bs:List UInt8}{A:Option Addr}(h:w.heap[g]? =some (.cells #[.slice A bs.length c,.int .i64 p] 133 (0,0)))(hp:p≤P)(h3:bs.length≤2000)(h4:bs.length≤c)
 (h5:0<bs.length→∃ b o,A=some ⟨b,o,none⟩∧b<g∧∀ j (hj:j<bs.length),w.cell? ⟨b,o+j,none⟩=some (.int .u8 (bs[j].toNat:Int)))
 (hw:∃ n,w'=(w.setCell ⟨g,1,none⟩ (.int .i64 ((p:Int)+1))).drewN n):Rdr w' g (P+1)∧qbb g w w':=by
 obtain⟨n,rfl⟩:=hw;have ho:∀ k,k≠g→((w.setCell ⟨g,1,none⟩ (.int .i64 ((p:Int)+1))).drewN n).heap[k]? =w.heap[k]? :=fun k hk=>Below.heap_setCell w ⟨g,1,none⟩ _ k hk;refine⟨⟨bs,A,c,p+1,?_,a_,h3,h4,fun hl=> ?_⟩,⟨rfl,rfl,rfl,by simp[World.setCell,World.drewN],fun k _ hne=>ho k (fun e=>hne (by rw[e]))⟩⟩
 · show(w.setCell ⟨g,1,none⟩ (.int .i64 ((p:Int)+1))).heap[g]? =_;simp only[World.setCell,Array.getElem?_modify,h,if_true,Option.map_some];simp
 · obtain⟨b,o,hA,hb,hc⟩:=h5 hl;exact⟨b,o,hA,hb,fun j hj=>(World.cell?_of_block (ho b a_)).trans (hc j hj)⟩

theorem qj7(X:Nat)(n:Int)(hX:X<1000000000000)(hn:1≤n):0≤(bits .xor .i64 (X:Int) ((X:Int)/64)).tmod n∧(bits .xor .i64 (X:Int) ((X:Int)/64)).tmod n<n:=by
 have e:bits .xor .i64 (X:Int) ((X:Int)/64)=((X ^^^ (X/64):Nat):Int):=by
  have hx:X ^^^ (X/64)<2 ^ 40:=Nat.xor_lt_two_pow a_ a_;rw[show(X:Int)/64=((X/64:Nat):Int) by omega];show IntKind.i64.wrap ((BitVec.ofInt 64 (X:Int) ^^^ BitVec.ofInt 64 ((X/64:Nat):Int)).toNat:Int)=_;rw[BitVec.toNat_xor,qdq X a_,qdq (X/64) a_,IntKind.wrap_i64];omega
 rw[e,Int.tmod_eq_emod_of_nonneg (Int.natCast_nonneg _)];exact⟨Int.emod_nonneg _ a_,Int.emod_lt_of_pos _ a_⟩

theorem qan(g P:Nat)(n:Int)(w:World)(hr:Rdr w g P)(hn1:1≤n)(hn2:n≤1000000)(hP:P≤1000000000):
 Calls Tryz.prog 49 #[.pointer (some ⟨g,0,none⟩),.int .i64 n] w (qms g P n w):=by
 obtain⟨bs,A,c,p,h1,h2,h3,h4,h5⟩:=hr;have k0:w.cell? ⟨g,0,none⟩=some (.slice A bs.length c):=cell_of_row w g 0 _ _ _ h1;have k1:w.cell? ⟨g,1,none⟩=some (.int .i64 p):=cell_of_row w g 1 _ _ _ h1;have kf:w.frozen? ⟨g,1,none⟩=false:=by simp[World.frozen?,h1]
 have HK:=hI_ (fun(w':World)=>qmS (w':=w') h1 h2 h3 h4 h5);have m0:(w.setCell ⟨g,1,none⟩ (.int .i64 ((p:Int)+1))).cell? ⟨g,0,none⟩=some (.slice A bs.length c):=by
  rw[World.cell?_setCell_other _ _ _ _ k_];exact k0
 have m1:(w.setCell ⟨g,1,none⟩ (.int .i64 ((p:Int)+1))).cell? ⟨g,1,none⟩=some (.int .i64 ((p:Int)+1)):=by
  simp[World.cell?,World.setCell,Array.getElem?_modify,h1]
 have H5:=hI_ h5;have H1:=hI_ h1;clear h1 h5;by_cases hz:bs.length=0
 · have hz':((bs.length:Int)==0)=true:=by simp[hz]
   clear hz;go_enter Tryz.func49,Tryz.ntmps49
   go_wp2
   go_ret;obtain⟨r1,r2⟩:=HK.out (w.setCell ⟨g,1,none⟩ (.int .i64 ((p:Int)+1))) ⟨0,rfl⟩;exact⟨0,rfl,a_,a_,r1,r2⟩
 · have hz':((bs.length:Int)==0)=false:=by rw[beq_eq_false_iff_ne];omega
   obtain⟨b,o,rfl,hbg,hc⟩:=H5.out a_;by_cases hlt:p<bs.length
   · have hlt':(p:Int)<(bs.length:Int):=a_;have hcell:(w.setCell ⟨g,1,none⟩ (.int .i64 ((p:Int)+1))).cell? ⟨b,o+p,none⟩=some (.int .u8 (bs[p].toNat:Int)):=by
      rw[World.cell?_setCell_other _ _ _ _ (by intro e;injection e with e1;omega)];exact hc p hlt
     have hb8:(bs[p].toNat:Int)<256:=by have:=bs[p].toNat_lt;omega
     clear hc;generalize bs[p].toNat=y at*
     have hy1:0≤(y:Int)%n:=Int.emod_nonneg _ a_;have hy2:(y:Int)%n<n:=Int.emod_lt_of_pos _ a_;go_enter Tryz.func49,Tryz.ntmps49
     go_wp2
     go_ret;obtain⟨r1,r2⟩:=HK.out (w.setCell ⟨g,1,none⟩ (.int .i64 ((p:Int)+1))) ⟨0,rfl⟩;exact⟨(y:Int)%n,rfl,hy1,hy2,r1,r2⟩
   · have hlt':¬ (p:Int)<(bs.length:Int):=a_;have hl1:p%bs.length<bs.length:=Nat.mod_lt _ a_;have hl2:(p*7+3)%bs.length<bs.length:=Nat.mod_lt _ a_;have c1:(w.setCell ⟨g,1,none⟩ (.int .i64 ((p:Int)+1))).cell? ⟨b,o+p%bs.length,none⟩=some (.int .u8 (bs[p%bs.length].toNat:Int)):=by
      rw[World.cell?_setCell_other _ _ _ _ (by intro e;injection e with e1;omega)];exact hc _ hl1
     have c2:(w.setCell ⟨g,1,none⟩ (.int .i64 ((p:Int)+1))).cell? ⟨b,o+(p*7+3)%bs.length,none⟩=some (.int .u8 (bs[(p*7+3)%bs.length].toNat:Int)):=by
      rw[World.cell?_setCell_other _ _ _ _ (by intro e;injection e with e1;omega)];exact hc _ hl2
     have b1:(bs[p%bs.length].toNat:Int)<256:=by have:=bs[p%bs.length].toNat_lt;omega
     have b2:(bs[(p*7+3)%bs.length].toNat:Int)<256:=by have:=bs[(p*7+3)%bs.length].toNat_lt;omega
     have e1:(p:Int)%(bs.length:Int)=((p%bs.length:Nat):Int):=k_;have e2:((p:Int)*7+3)%(bs.length:Int)=(((p*7+3)%bs.length:Nat):Int):=k_;have e3:(p:Int)/(bs.length:Int)=((p/bs.length:Nat):Int):=k_;have b3:p/bs.length≤p:=Nat.div_le_self _ _;clear hc;generalize bs[p%bs.length].toNat=y1 at*
     generalize bs[(p*7+3)%bs.length].toNat=y2 at*
     generalize p%bs.length=q1 at*
     generalize(p*7+3)%bs.length=q2 at*
     generalize p/bs.length=q3 at*
     have hX:(y1:Int)*131+(y2:Int)*1117+(p:Int)*29+(q3:Int)*53=((y1*131+y2*1117+p*29+q3*53:Nat):Int):=a_;have hXb:y1*131+y2*1117+p*29+q3*53<1000000000000:=a_;generalize y1*131+y2*1117+p*29+q3*53=X at*
     have hb0:b<w.heap.size:=by
      have:=(Array.getElem?_eq_some_iff.1 H1.out).1;omega
     have hg0:g<w.heap.size:=(Array.getElem?_eq_some_iff.1 H1.out).1;have HX:=hI_ hX;clear hX;go_enter Tryz.func49,Tryz.ntmps49
     go_wp2
     generalize hW:w.setCell ⟨g,1,none⟩ (.int .i64 ((p:Int)+1))=W at*
     have HW:=hI_ hW;clear hW;go_quiet (fail)
     go_wp2
     go_ret;obtain⟨r1,r2⟩:=HK.out (W.drewN nq) ⟨nq,rfl⟩;refine⟨_,rfl,?_,?_,r1,r2⟩
     · rw[HX.out];exact(qj7 X n hXb hn1).1
     · rw[HX.out];exact(qj7 X n hXb hn1).2
abbrev RU:=R1 (fun b:UInt8=>Value.int .u8 (b.toNat:Int))
def qmr(w:World)(e:Ending)(w':World):Prop:=∃ g,e=.returned (.pointer (some ⟨g,0,none⟩))∧w.heap.size≤g∧Rdr w' g 0∧bB w w'
theorem qkM(bs:List UInt8)(v:Value)(w:World)(hv:RU w v bs):Calls Tryz.prog 46 #[v] w (qmr w):=by
 have HV:=hI_ hv;obtain⟨A,c,rfl,h1,h2,h3⟩:=hv;unfold maxLen at h2;by_cases hl:2000<bs.length
 · obtain⟨b,o,rfl,hb,hc⟩:=h3 a_;have HC:=hI_ hc;clear hc h3;have hl':(2000:Int)<(bs.length:Int):=a_;have hcc:(2000:Int)≤(c:Int):=a_;go_enter Tryz.func46,Tryz.ntmps46
   go_wp2
   go_ret;refine⟨w.heap.size,rfl,nr_ _,⟨bs.take 2000,some ⟨b,o,none⟩,c,0,?_,nr_ _,n_,n_,fun _=>⟨b,o,rfl,hb,fun j hj=> ?_⟩⟩,(bR_ _ _).alloc (nr_ _) _⟩
   · rw[heap_alloc_new];simp[Nat.min_eq_left (Nat.le_of_lt hl)]
   · have hj2:j<bs.length:=by simp at hj;omega
     rw[((bR_ w.heap.size w).alloc (nr_ _) _).cell (p:=⟨b,o+j,none⟩) hb,HC.out j hj2];simp
 · have hl':¬ (2000:Int)<(bs.length:Int):=a_;have H3:=hI_ h3;clear h3;go_enter Tryz.func46,Tryz.ntmps46
   go_wp2
   go_ret;refine⟨w.heap.size,rfl,nr_ _,⟨bs,A,c,0,?_,nr_ _,a_,h1.1,fun hp=> ?_⟩,(bR_ _ _).alloc (nr_ _) _⟩
   · rw[heap_alloc_new];rfl
   · obtain⟨b,o,hA,hb,hc⟩:=H3.out hp;exact⟨b,o,hA,hb,fun j hj=>(((bR_ w.heap.size w).alloc (nr_ _) _).cell (p:=⟨b,o+j,none⟩) hb).trans (hc j hj)⟩

def qi3(lo hi:Int)(g P:Nat)(w:World)(e:Ending)(w':World):Prop:=
 ∃ x:Int,e=.returned (.int .i64 x)∧lo≤x∧x≤hi∧Rdr w' g P∧qbb g w w'
theorem qjz(g P:Nat)(w:World)(hr:Rdr w g P)(hP:P≤1000000):Calls Tryz.prog 141 #[.pointer (some ⟨g,0,none⟩)] w (qi3 1 986 g (P+2) w):=by
 go_enter Tryz.func141,Tryz.ntmps141
 go_wp2_with fail
 refine(qan g P 99 _ hr a_ a_ a_).mono ?_;rintro e w1 ⟨x,rfl,x1,x2,r1,o1⟩;go_wp2_with fail
 refine(qan g (P+1) 6 _ r1 a_ a_ a_).mono ?_;rintro e w2 ⟨y,rfl,y1,y2,r2,o2⟩;go_wp2
 go_ret;exact⟨_,rfl,a_,a_,r2,o1.trans o2⟩

theorem qbb.cell{g:Nat}{a b:World}(h:qbb g a b){k o:Nat}(hk:k<a.heap.size)(hg:k≠g):b.cell? ⟨k,o,none⟩=a.cell? ⟨k,o,none⟩:=World.cell?_of_block (h.block k hk (fun e=>hg (Option.some.inj e)))
theorem R1.only{α:Type}{enc:α→Value}{w w':World}{v:Value}{l:List α}{g:Nat}(h:R1 enc w v l)(ho:qbb g w w')(hne:∀ b o,∀ n c,v=.slice (some ⟨b,o,none⟩) n c→b≠g):R1 enc w' v l:=by
 obtain⟨A,c,rfl,h1,h2,h3⟩:=h;refine⟨A,c,rfl,h1,h2,fun hl=> ?_⟩;obtain⟨b,o,rfl,hb,hc⟩:=h3 hl;exact⟨b,o,rfl,nL_ hb ho.size,fun j hj=>(ho.cell hb (hne b o _ _ rfl)).trans (hc j hj)⟩
def qmt(g P:Nat)(w:World)(e:Ending)(w':World):Prop:=∃ s:ByteArray,e=.returned (.string s)∧s.size≤10∧Rdr w' g P∧qbb g w w'
theorem qc4(g P:Nat)(w:World)(hr:Rdr w g P)(hP:P≤1000000):Calls Tryz.prog 97 #[.pointer (some ⟨g,0,none⟩)] w (qmt g (P+13) w):=by
 have hcv0:=hI_ (fun(W:World) (x:Int)=>qmC W x);have key:∀ (n:Int) (w0:World),0≤n→n≤10→Rdr w0 g (P+3)→qbb g w w0→True:=fun _ _ _ _ _ _=>trivial;clear key;go_enter Tryz.func97,Tryz.ntmps97
 go_wp2_with fail
 refine(qan g P 9 _ hr a_ a_ a_).mono ?_;rintro e w1 ⟨x,rfl,x1,x2,r1,o1⟩;go_wp2_with fail
 refine(qan g (P+1) 20 _ r1 a_ a_ a_).mono ?_;rintro e w2 ⟨y,rfl,y1,y2,r2,o2⟩;have o02:=o1.trans o2;by_cases hy:y=0
 · subst hy;go_wp2_with fail
   refine(qan g (P+2) 3 _ r2 a_ a_ a_).mono ?_;rintro e w3 ⟨z,rfl,z1,z2,r3,o3⟩;have o03:=o02.trans o3;go_wp2
   go_loopw [3,5] (fun s i wr=>∃ (k:Nat) (t:ByteArray),(k:Int)≤8+z∧i=.int .i64 k∧s=.string t∧t.size=k∧Rdr wr g (P+3+k)∧qbb g w wr) (fun _ i _=>(8+z-intOf i).toNat)
   case atStart=>exact⟨0,_,a_,rfl,rfl,rfl,r3,o03⟩
   case round=>
    obtain⟨k,t,hk,rfl,rfl,ht,hrr,hoo⟩:=hrel;by_cases hlt:(k:Int)<8+z
    · go_wp2_with fail
      refine(qan g (P+3+k) 26 _ hrr a_ a_ a_).mono ?_;rintro e w4 ⟨u,rfl,u1,u2,r4,o4⟩;have hcv:=hcv0.out w4 (97+u);have hsz:t.size+1≤100:=a_;go_wp2
      go_roundw
      case rel=>exact⟨k+1,_,a_,t_,rfl,by simp[ht];rfl,r4.below ((bR_ _ _).alloc (nr_ _) _),(hoo.trans o4).thenB ((bR_ _ _).alloc (nr_ _) _)⟩
      case measure=>simp[intOf];omega
    · go_wp2
      go_ret;exact⟨t,rfl,a_,hrr.mono a_,hoo⟩
 · have hy':(y==0)=false:=by rw[beq_eq_false_iff_ne];exact hy
   go_wp2
   go_loopw [3,5] (fun s i wr=>∃ (k:Nat) (t:ByteArray),(k:Int)≤x∧i=.int .i64 k∧s=.string t∧t.size=k∧Rdr wr g (P+3+k)∧qbb g w wr) (fun _ i _=>(x-intOf i).toNat)
   case atStart=>exact⟨0,_,a_,rfl,rfl,rfl,r2.mono a_,o02⟩
   case round=>
    obtain⟨k,t,hk,rfl,rfl,ht,hrr,hoo⟩:=hrel;by_cases hlt:(k:Int)<x
    · go_wp2_with fail
      refine(qan g (P+3+k) 26 _ hrr a_ a_ a_).mono ?_;rintro e w4 ⟨u,rfl,u1,u2,r4,o4⟩;have hcv:=hcv0.out w4 (97+u);have hsz:t.size+1≤100:=a_;go_wp2
      go_roundw
      case rel=>exact⟨k+1,_,a_,t_,rfl,by simp[ht];rfl,r4.below ((bR_ _ _).alloc (nr_ _) _),(hoo.trans o4).thenB ((bR_ _ _).alloc (nr_ _) _)⟩
      case measure=>simp[intOf];omega
    · go_wp2
      go_ret;exact⟨t,rfl,a_,hrr.mono a_,hoo⟩
section
variable {B q:Nat} {w w':World} {f:Fd} {vb vh:Value}
theorem FB.grown(h:FB B q w f vb vh){row:Option Nat}(hg:w.grownBy w' row)(hr:row≠some q)(hb:vb.ownBlock=none∨vb.ownBlock≠row)(hh:vh.ownBlock=none∨vh.ownBlock≠row):FB B q w' f vb vh:=
 ⟨(hg.block q h.lt (fun e=>hr e.symm)).trans h.box,⟨h.fo.bl.grown hg hb,h.fo.hv.grown hg hh⟩⟩
end

end Go.Proofs.YtekaaekpdebloaaGreatDoor
namespace Go.Proofs.YtekaaekpdebloaaGreatDoor

theorem qo5{f:Fd}(h:qaq f=true)(hw:qbA f.hv=true)(h0:f.bl.length≠0):qbN (lvs f.bl)=f.hd.dg:=by
 simp only[qaq,Bool.and_eq_true,Bool.or_eq_true,beq_iff_eq,Bool.not_eq_true'] at h;rcases h.2 with(h1|h1)|h1
 · exact absurd h1 h0
 · rw[hw] at h1;cases h1
 · exact h1
theorem qoV{f:Fd}(h:qaq f=true):qaE (lvs f.bl)=true:=qaJ.2 ⟨by rw[qcP];exact(qax h).2.1,qlV _⟩
end Go.Proofs.YtekaaekpdebloaaGreatDoor
namespace Go.Proofs.YtekaaekpdebloaaGreatDoor
open Go.RowKit

theorem ON.madeN{e:TypeId}{w:World}{N n:Nat}(z:Array Value)(hn:n≤maxLen):ON N w.heap.size e (w.alloc (.cells (madeCells z (n*N)) e)) (.slice (some ⟨w.heap.size,0,none⟩) n n) n (fun t=>z[t%z.size]!):=by
 refine⟨k_,.inr ⟨w.heap.size,n,madeCells z (n*N),rfl,nr_ _,heap_alloc_new w _,nr_ _,hn,b3_,?_⟩⟩;rw[List.take_of_length_le b3_];apply List.ext_getElem b3_;intro s h1 h2;simp[madeCells]
theorem qhD{P:Program}(t e:TypeId)(i:TypeInfo)(z:Value)(ht:P.underlying t=some (.slice e))(hi:P.info? e=some i)(hz:i.zero=some z){N:Nat}{zc:Array Value}(hsize:i.size=N)(hzc:z.cells=zc)
 (kl kc:IntKind) (n:Nat) (hbytes:i.bytes*n≤281474976710656) (h63:n≤9223372036854775807) (w:World):
 (Instr.makeSlice t (.int kl (n:Int)) (.int kc (n:Int))).run P w=.ok (.slice (some ⟨w.heap.size,0,none⟩) n n) (w.alloc (.cells (madeCells zc (n*N)) e)):=by
 have hb':(i.bytes:Int)*(n:Int)≤281474976710656:=by
  have h:((i.bytes*n:Nat):Int)≤281474976710656:=a_;rwa[Int.natCast_mul] at h
 have hr:=run_make (P:=P) w t e i z ht hi hz kl kc n n a_ (Int.le_refl _) hb' a_;simp only[Int.toNat_natCast,hsize,hzc] at hr;exact hr
section
variable {T:List TypeId} {B C:Nat} {w w' w2:World}
theorem MK.grown{row:Option Nat}(h:w.grownBy w' row)(hr:∀ k,row=some k→B≤k∧k<C)(ht:∀ r,row=some r→∃ cur e fr,w.heap[r]? =some (.cells cur e fr)∧e ∉ T):MK T B C w w':=⟨Mid.grown h hr,qaA.of_grown h ht⟩
end
end Go.Proofs.YtekaaekpdebloaaGreatDoor
namespace Go.Proofs.YtekaaekpdebloaaGreatDoor

section
variable {α β:Type} (f:α→α→α) (g:β→β→β) (e:α→β)
variable (he:∀ a b,e (f a b)=g (e a) (e b))
include he
end
section
variable {α:Type} (f:α→α→α) (P:α→Prop) (hf:∀ a b,P a→P b→P (f a b))
include hf
end
theorem qoY{m n:Nat}(hn:n≤16)(hm:m≤n)(l:List Int):qcz qbo m n ((qa2 m n).map (qdK l))=(qaz 0 n).map (qdK l):=by
 obtain⟨ys,h1,h2,h3⟩:=qkS (xs:=(qa2 m n).map (qdK l)) hn hm (fun k s x=>qbU l k s=x) (fun k s x y _ hx hy=>by rw[←hx,←hy];rfl) (by simp) (fun p hp=>by
  rw[List.zip_map_right,List.mem_map] at hp;obtain⟨q,hq,rfl⟩:=hp;have:q.1=q.2:=by
   rw[List.zip_eq_zipWith] at hq;have:=List.mem_iff_getElem.1 hq;obtain⟨i,hi,rfl⟩:=this;simp
  show qbU l q.1.2.log2 q.1.1=qdK l q.2;rw[this];rfl)
 rw[←h1,←h2,List.map_map];apply List.map_congr_left;intro y hy;exact(h3 y hy).symm
theorem qpn{l:List Int}(hl:qaE l=true){m:Nat}(hm:m≤l.length)(hlen:0<l.length):qbc m (qbN (l.take m)) l.length (qbN l) (qcv l m)=true:=by
 obtain⟨h16,hd⟩:=qaJ.1 hl;have hi:inB (m:Int) 0 (l.length:Int)=true:=qak.2 (by omega);have hg:qcv l m=(qa2 m l.length).map (qdK l):=by unfold qcv;rw[hl,hi];rfl
 have htk:qaE (l.take m)=true:=qaJ.2 ⟨by simp;omega,qcb hd m⟩;have hlt:(l.take m).length=m:=by simp;omega
 have hpk:qdX (l.take m)=(qaz 0 m).map (qdK l):=by
  unfold qdX;rw[hlt];apply List.map_congr_left;intro t ht;obtain⟨t1,t2,_⟩:=qcW m (by omega) 0 (by omega) t ht;exact qcG _ _ (by rw[t2];exact t1)
 have hdg:qb7 ((qa2 m l.length).map (qdK l))=true:=by
  unfold qb7;rw[List.all_map,List.all_eq_true];intro t ht;obtain⟨t1,t2,_⟩:=qeJ l.length (by omega) m (by omega) t ht;exact qdr hd _ _ (by rw[t2];exact t1)
 unfold qbc qdF;rw[hg,hdg,hi,show inB (l.length:Int) 0 16=true from qak.2 (by omega)];simp only[Int.toNat_natCast,List.length_map,decide_true,Bool.true_and,Bool.and_eq_true,beq_iff_eq];refine⟨?_,?_⟩
 · unfold qbN;rw[htk,if_pos rfl,hlt,hpk];congr 1;unfold qa2;rw[List.map_append,List.take_append_of_le_length (by simp),List.take_of_length_le (by simp)]
 · unfold qbN;rw[hl,if_pos rfl,qoY h16 hm];rfl
theorem qjb{bl:List ByteArray}{hv:List Bool}(h:∀ (j:Nat) s b,bl[j]? =some s→hv[j]? =some b→qbQ s b=true):qaI bl hv=true:=by
 induction bl generalizing hv with
 |nil=>rfl
 |cons s bl ih=>
  cases hv with
  |nil=>rfl
  |cons b hv=>
   simp only[qaI,Bool.and_eq_true];exact⟨h 0 s b rfl rfl,ih fun j s' b' h1 h2=>h (j+1) s' b' bd_ (by simpa using h2)⟩
theorem Hd.same_iff{a b:Hd}:a.same b=true↔a=b:=by
 cases a;cases b;simp[Hd.same,and_assoc]
theorem qo6{f:Fd}{h:Hd}{l:List Int}(hc:qbE f.pub h=true)(hl:h.len≠0)(hz:f.hd.len=0):qdJ f h l=0:=by
 obtain⟨b1,b2⟩:=qe4 hc;unfold qdJ;rw[hc,if_neg (by simp[hl]),if_neg,if_neg a_,if_neg a_,if_neg (by simp[hz])];intro hs;have:=Hd.same_iff.1 hs;rw[←this] at hz;exact hl hz
end Go.Proofs.YtekaaekpdebloaaGreatDoor
namespace Go.Proofs.YtekaaekpdebloaaGreatDoor
open Go.RowKit

theorem qbZ{g q:Nat}{a w:World}(h:qbb g a w)(hq:a.heap.size≤q)(x0 x1 x2 x3 x4 x5:Value):qbb g a ((((((w.setCell ⟨q,0,none⟩ x0).setCell ⟨q,1,none⟩ x1).setCell ⟨q,2,none⟩ x2).setCell ⟨q,3,none⟩ x3).setCell ⟨q,4,none⟩ x4).setCell ⟨q,5,none⟩ x5):=
 (((((h.set hq _).set hq _).set hq _).set hq _).set hq _).set hq _
theorem qcw{g q P:Nat}{w:World}(h:Rdr w g P)(hq:g<q)(x0 x1 x2 x3 x4 x5:Value):Rdr ((((((w.setCell ⟨q,0,none⟩ x0).setCell ⟨q,1,none⟩ x1).setCell ⟨q,2,none⟩ x2).setCell ⟨q,3,none⟩ x3).setCell ⟨q,4,none⟩ x4).setCell ⟨q,5,none⟩ x5) g P:=
 (((((h.set hq _).set hq _).set hq _).set hq _).set hq _).set hq _
def qoI(bad:Int)(st:List Bool)(l:Int×Int):List Bool:=
 let s1:=if st.getD l.1.toNat false&&l.1 !=bad then st.set l.2.toNat true else st
 if s1.getD l.2.toNat false&&l.2 !=bad then s1.set l.1.toNat true else s1
theorem qpe(bad:Int)(st:List Bool)(l:Int×Int):(qoI bad st l).length=st.length:=by
 unfold qoI;simp only;split <;> split <;> simp
def qoN(bad:Int)(ls:List (Int×Int))(st:List Bool)(j:Nat):List Bool:=(ls.take j).foldl (qoI bad) st
theorem qoR{bad:Int}{ls:List (Int×Int)}{st:List Bool}{j:Nat}(h:j<ls.length):qoN bad ls st (j+1)=qoI bad (qoN bad ls st j) ls[j]:=by
 unfold qoN;rw[List.take_succ_eq_append_getElem h,List.foldl_append];rfl
theorem qoX(bad:Int):∀ (l:List (Int×Int)) (st:List Bool),(l.foldl (qoI bad) st).length=st.length
 |[],_=>rfl
 |x::l,st=>by rw[List.foldl_cons,qoX bad l,qpe]
theorem qoT{bad:Int}{ls:List (Int×Int)}{st:List Bool}{j:Nat}:(qoN bad ls st j).length=st.length:=qoX bad _ _
def qoJ(bad:Int)(ls:List (Int×Int))(n:Nat):Nat→List Bool
 |0=>(List.replicate n false).set 0 true
 |k+1=>qoN bad ls (qoJ bad ls n k) ls.length
theorem qoO{bad:Int}{ls:List (Int×Int)}{n:Nat}:∀ k,(qoJ bad ls n k).length=n
 |0=>by simp[qoJ]
 |k+1=>by rw[qoJ,qoT];exact qoO k
def qoL(st:List Bool)(m:Nat):List Int:=((List.range m).filter fun i=>st.getD i false).map fun i:Nat=>(i:Int)
theorem qpo{st:List Bool}{m:Nat}(h:st.getD m false=false):qoL st (m+1)=qoL st m:=by
 unfold qoL;rw[List.range_succ,List.filter_append,List.filter_cons_of_neg (by rw[h];simp),List.filter_nil,List.append_nil]
theorem qpj{st:List Bool}{m:Nat}(h:st.getD m false=true):qoL st (m+1)=qoL st m++[(m:Int)]:=by
 unfold qoL;rw[List.range_succ,List.filter_append,List.filter_cons_of_pos (p:=fun i=>st.getD i false) h,List.filter_nil,List.map_append];rfl
theorem qpi(st:List Bool)(m:Nat):(qoL st m).length≤m:=by
 unfold qoL;rw[List.length_map];exact Nat.le_trans (List.length_filter_le _ _) k_
def qoK(x:Wd):List Int:=if qcc x then qoL (qoJ x.bad x.links x.feeds.length x.feeds.length) x.feeds.length else []
theorem qoQ{x:Wd}(h:qcc x=true):1≤x.feeds.length∧x.feeds.length≤6∧∀ j (hj:j<x.links.length),0≤x.links[j].1∧x.links[j].1<x.feeds.length∧0≤x.links[j].2∧x.links[j].2<x.feeds.length:=by
 unfold qcc at h;simp only[Bool.and_eq_true] at h;obtain⟨⟨⟨⟨⟨⟨⟨h1,-⟩,-⟩,h4⟩,-⟩,-⟩,-⟩,-⟩:=h;obtain⟨-,a,b,-,-⟩:=qb5 h1;refine⟨a,b,fun j hj=> ?_⟩;have:=qcS.1 h4 j hj;unfold qdV qc5 at this;rw[qam hj] at this;simp only[Bool.and_eq_true] at this;have i1:=qak.1 this.1.1;have i2:=qak.1 this.1.2;omega
theorem O1.zeros{α:Type}{enc:α→Value}{e:TypeId}{w:World}{n:Nat}(z:α)(hn:n≤maxLen):O1 enc w.heap.size e (w.alloc (.cells (madeCells #[enc z] n) e)) (.slice (some ⟨w.heap.size,0,none⟩) n n) (List.replicate n z):=by
 unfold O1;rw[List.length_replicate];refine⟨k_,.inr ⟨w.heap.size,n,madeCells #[enc z] n,rfl,nr_ _,heap_alloc_new w _,nr_ _,hn,b3_,?_⟩⟩;rw[List.take_of_length_le b3_];apply List.ext_getElem b3_;intro s h1 h2;simp[madeCells,Nat.mod_one]
section
variable {ops:Array Oper} {rest:List Oper} {o:Oper} {a:Act} {Q:Exit→Act→World→Prop} {w:World} {base:Nat} {v:Value}
theorem qpm{l:List Int}(hown:O1 (Value.int .i64) base 3 w v l)(hn:l.length≤100000000000)(hbase:base≤w.heap.size){y:Int}(hgd:o.guard=none){s x:Operand}
 (ho:o.op=.call {callee:=.builtin .append,args:= #[s,x],argTypes:= #[43,43]}) (hs:a.eval s=v) (hx:a.eval x=.slice (some ⟨w.heap.size,0,none⟩) 1 1)
 (h:∀ v' w',O1 (Value.int .i64) base 3 w' v' (l++[y])→w.grownBy w' v.ownBlock→wpList Tryz.prog ops Q rest (a.put o.dst v') w'):wpList Tryz.prog ops Q (o::rest) a (w.alloc (.cells #[.int .i64 y] 3)):=by
 obtain⟨i0,hi,hz0,hz1,hz2⟩:=info_parts qfx;exact qle 43 3 8 i0 _ Tryz.underlying43 hi hz0 hz1 hz2 rfl a_ hown hn hbase rfl hgd ho hs hx h
end
theorem qpg{k gb m o:Nat}{w:World}{u:Value}(hk:k≠gb):(w.setCell ⟨gb,m,none⟩ u).cell? ⟨k,o,none⟩=w.cell? ⟨k,o,none⟩:=World.cell?_of_block (Below.heap_setCell _ _ _ _ hk)
def qpf(x:Wd)(w:World)(e:Ending)(w':World):Prop:=∃ v',e=.returned v'∧O1 (Value.int .i64) w.heap.size 3 w' v' (qoK x)∧bB w w'
theorem qoM{x:Wd}{b:Bool}(h:Hid (qcc x=b))(vF vL vK vN:Value)(w:World)(hx:WdR w x vF vL vK vN)(ht:∀ j (hj:j<x.net.length),x.net[j].txt.size≤maxLen):
 gV 34 #[.agg #[.int .i64 x.sec,.int .i64 x.bad,vF,vL,vK,vN]] w (.bool b):=by
 rw[←h.out];exact qfi x vF vL vK vN w hx ht
end Go.Proofs.YtekaaekpdebloaaGreatDoor
namespace Go.Proofs.YtekaaekpdebloaaGreatDoor

theorem qlC{a:List Bool}{i j:Nat}:(a.set j true).getD i false=(a.getD i false||(decide (i=j)&&decide (j<a.length))):=by
 rw[List.getD_eq_getElem?_getD,List.getD_eq_getElem?_getD,List.getElem?_set];by_cases h:j=i
 · subst h;by_cases h2:j<a.length
   · simp[h2]
   · simp[h2]
 · have:i≠j:=fun e=>h e.symm;simp[h,this]
theorem qoZ{st:List Bool}{m:Nat}{c:Int}:c ∈ qoL st m↔∃ i:Nat,c=i∧i<m∧st.getD i false=true:=by
 unfold qoL;simp only[List.mem_map,List.mem_filter,List.mem_range];constructor
 · rintro⟨i,⟨h1,h2⟩,rfl⟩;exact⟨i,rfl,h1,h2⟩
 · rintro⟨i,rfl,h1,h2⟩;exact⟨i,⟨h1,h2⟩,rfl⟩
def qbW(a b:Int)(x:Wd)(k:Nat):Wd:=
 if (x.feed a).hv.getD k false&& !(x.feed b).hv.getD k false then
  {x with feeds:=x.feeds.set b.toNat (qes (x.feed b) k ((x.feed a).bl.getD k ⟨#[]⟩) (qaQ ((lvs x.f0.bl).take (x.feed a).hd.len.toNat) k)).1}
 else x
def qby(a b:Int)(x:Wd)(n:Nat):Wd:=(List.range n).foldl (qbW a b) x
theorem qdB(a b:Int)(x:Wd)(n:Nat):qby a b x (n+1)=qbW a b (qby a b x n) n:=by
 unfold qby;rw[List.range_succ,List.foldl_append];rfl
def qa5(x:Wd)(a b:Int):Wd:=
 if a=x.bad then x
 else if ((qa0 x a b).feed a).hd.len=((qa0 x a b).feed b).hd.len then qby a b (qa0 x a b) ((qa0 x a b).feed a).hd.len.toNat
 else qa0 x a b
def qft(x:Wd)(l:Int×Int):Wd:=qa5 (qa5 x l.1 l.2) l.2 l.1
def qdb(ls:List (Int×Int))(x:Wd)(k:Nat):Wd:=(ls.take k).foldl qft x
theorem qer{ls:List (Int×Int)}{x:Wd}{k:Nat}(h:k<ls.length):qdb ls x (k+1)=qft (qdb ls x k) ls[k]:=by
 unfold qdb;rw[qaZ h,List.foldl_append];rfl
def qdH(ls:List (Int×Int))(x:Wd):Nat→Wd
 |0=>x
 |k+1=>qdb ls (qdH ls x k) ls.length
def Wd.quiet(x:Wd):Wd:={x with asked:=List.replicate x.asked.length [],net:=[]}
def qgl(x:Wd):Wd:=qdH x.links x.quiet x.feeds.length

theorem qmQ{f0 f:Fd}{n:Nat}(hn:f.bl.length=n)(hl:n≤f0.bl.length)(h:∀ i,i<n→qbi (f.bl.getD i ⟨#[]⟩).data.toList=qbi (f0.bl.getD i ⟨#[]⟩).data.toList):lvs f.bl=(lvs f0.bl).take n:=by
 refine List.ext_getElem (by rw[qcP,List.length_take,qcP];omega) fun i h1 h2=> ?_;rw[qcP] at h1;have e:=h i a_;rw[qam a_,qam a_] at e;have e1:(lvs f.bl)[i]'(by rw[qcP];omega)=qbi f.bl[i].data.toList:=by simp[lvs]
 have e2:((lvs f0.bl).take n)[i]'h2=qbi f0.bl[i].data.toList:=by rw[List.getElem_take];simp[lvs]
 rw[e1,e2];exact e
theorem qfl:∀ {bl:List ByteArray} {hv:List Bool},qaI bl hv=true→∀ {j:Nat} {s b},bl[j]? =some s→hv[j]? =some b→qbQ s b=true
 |[],_,_,j,s,b,h1,_=>by simp at h1
 |_::_,[],_,j,s,b,_,h2=>by simp at h2
 |t::bl,c::hv,h,0,s,b,h1,h2=>by
  simp only[qaI,Bool.and_eq_true] at h;simp at h1 h2;subst h1;subst h2;exact h.1
 |t::bl,c::hv,h,j+1,s,b,h1,h2=>by
  simp only[qaI,Bool.and_eq_true] at h;exact qfl h.2 (j:=j) bd_ (by simpa using h2)
theorem qmW{sec:Int}{f0 f:Fd}{k:Nat}{t:ByteArray}(h0:qaq f0=true)(hk:key sec=true)(hf:qgA sec f0 f)(hkl:k<f.bl.length)(hn:f.hv.getD k false=false)(ht:t.size≤8)
 (htx:qbi t.data.toList=qbi (f0.bl.getD k ⟨#[]⟩).data.toList):
 qes f k t (qaQ ((lvs f0.bl).take f.hd.len.toNat) k)=(f.put k t,true)∧qgA sec f0 (f.put k t):=by
 obtain⟨l1,l2,l3⟩:=qax h0;obtain⟨k1,k2,k3⟩:=qax hf.v;have hle:=hf.le;have hd:f.hd=(qbJ sec ((lvs f0.bl).take f.hd.len.toNat)).1:=by
  rcases hf.hd with h1|h1
  · omega
  · exact h1
 obtain⟨m1,m2⟩:=qfS hk (qcV l2 f.hd.len.toNat);have hdg:f.hd.dg=qbN ((lvs f0.bl).take f.hd.len.toNat):=by rw[←m2,←hd]
 have hlt:k<f0.bl.length:=a_;have hlen:((lvs f0.bl).take f.hd.len.toNat).length=f.hd.len.toNat:=by rw[List.length_take,qcP];omega
 have hg:((lvs f0.bl).take f.hd.len.toNat).getD k 0=qbi (f0.bl.getD k ⟨#[]⟩).data.toList:=by
  rw[List.getD_eq_getElem?_getD,List.getElem?_take_of_lt a_,←List.getD_eq_getElem?_getD,qlW hlt,qam hlt]
 have hck:=qeI (l:=(lvs f0.bl).take f.hd.len.toNat) (i:=(k:Int)) (qcV l2 _) (by rw[hlen];exact qak.2 a_) (by rw[Int.toNat_natCast,hg];exact qgh _) (qga _);rw[hlen,Int.toNat_natCast,hg,←htx,←hdg,show((f.hd.len.toNat:Nat):Int)=f.hd.len by omega] at hck;have hmay:qbR f k t (qaQ ((lvs f0.bl).take f.hd.len.toNat) k)=true:=by
  unfold qbR;rw[hck,Int.toNat_natCast,hn,qak.2 a_];rfl
 have hbl:∀ i,i<f.bl.length→(f.put k t).hv.getD i false=true→qbi ((f.put k t).bl.getD i ⟨#[]⟩).data.toList=qbi (f0.bl.getD i ⟨#[]⟩).data.toList:=fun i hi hh=>by
  unfold Fd.put at hh ⊢;by_cases hie:i=k
  · subst hie;simp only[List.getD_eq_getElem?_getD,List.getElem?_set_self hi,Option.getD_some];rw[←List.getD_eq_getElem?_getD];exact htx
  · simp only[List.getD_eq_getElem?_getD,List.getElem?_set_ne (Ne.symm hie)] at hh ⊢;simp only[←List.getD_eq_getElem?_getD] at hh ⊢;exact hf.bl i hi hh
 have hv:=hf.v;simp only[qaq,Bool.and_eq_true,beq_iff_eq] at hv;obtain⟨⟨⟨⟨⟨v1,v2⟩,v3⟩,v4⟩,v5⟩,v6⟩:=hv;have hbo:qaI (f.put k t).bl (f.put k t).hv=true:=by
  refine qjb fun j s b e1 e2=> ?_;unfold Fd.put at e1 e2;simp only at e1 e2;by_cases hjk:k=j
  · subst hjk;rw[List.getElem?_set_self a_] at e1 e2;cases e1;cases e2
    simp[qbQ,ht]
  · rw[List.getElem?_set_ne hjk] at e1 e2;exact qfl v5 e1 e2
 have hval:qaq (f.put k t)=true:=by
  simp only[qaq,Bool.and_eq_true,beq_iff_eq];refine⟨⟨⟨⟨⟨v1,v2⟩,?_⟩,?_⟩,hbo⟩,?_⟩
  · show((f.bl.set k t).length:Int)=_;rw[List.length_set];exact v3
  · show((f.hv.set k true).length:Int)=_;rw[List.length_set];exact v4
  · by_cases hw:qbA (f.put k t).hv=true
    · have hall:=qds hw;have e:=qmQ (f:=f.put k t) (n:=f.bl.length) (by show(f.bl.set k t).length=_;rw[List.length_set]) a_ (fun i hi=>hbl i hi (by
       have:=hall i (by show i<(f.hv.set k true).length;rw[List.length_set];omega);rw[List.getD_eq_getElem?_getD,this];rfl))
      rw[e,show f.bl.length=f.hd.len.toNat by omega];have:(f.put k t).hd.dg=f.hd.dg:=rfl;rw[this,hdg];simp
    · simp[hw]
 refine⟨?_,hval,hf.pub,hf.le,hf.hd,fun i hi hh=>hbl i (by simpa[Fd.put] using hi) hh⟩;unfold qes;rw[hf.v,Int.toNat_natCast,if_pos (by simpa using ht),if_pos (by rw[hmay,hval];rfl)]

theorem WV.full0{x:Wd}(h:WV x):qn3 x 0:=⟨rfl,fun i hi=>by
 have:=qds h.wh i hi;show(x.feeds.getD 0 Fd.none).hv.getD i false=true;rw[List.getD_eq_getElem?_getD];have e:x.f0=x.feeds.getD 0 Fd.none:=rfl;rw[←e,this];rfl⟩
theorem Gv.setF{x:Wd}(h:WV x){b:Nat}{f:Fd}(hb:b≠0)(hf:qgA x.sec x.f0 f):Gv b x {x with feeds:=x.feeds.set b f}:=
 ⟨rfl,rfl,rfl,rfl,rfl,k_,fun j hj=>getD_set_ne hj _ _,qly hb,h.setF hb hf⟩
section
variable {x:Wd} {i j:Nat}
theorem WV.fdD(h:WV x)(hj:j<x.feeds.length):qgA x.sec x.f0 (x.feeds.getD j Fd.none):=by rw[qam hj];exact h.fd j hj
theorem qhp(h:WV x)(hi:i<x.feeds.length)(hj:j<x.feeds.length)(hl:(x.feeds.getD i Fd.none).hd.len=(x.feeds.getD j Fd.none).hd.len){k:Nat}(hk:k<(x.feeds.getD i Fd.none).hd.len.toNat):
 Gv j x (qbW i j x k)∧((qbW i j x k).feeds.getD j Fd.none).hd=(x.feeds.getD j Fd.none).hd∧
  (∀ m,((qbW i j x k).feeds.getD j Fd.none).hv.getD m false=((x.feeds.getD j Fd.none).hv.getD m false||(decide (m=k)&&(x.feeds.getD i Fd.none).hv.getD k false)))∧
  ((x.feeds.getD i Fd.none).hv.getD k false=true→(x.feeds.getD j Fd.none).hv.getD k false=false→j≠0∧qes (x.feeds.getD j Fd.none) k ((x.feeds.getD i Fd.none).bl.getD k ⟨#[]⟩) (qaQ ((lvs x.f0.bl).take (x.feeds.getD i Fd.none).hd.len.toNat) k)=((x.feeds.getD j Fd.none).put k ((x.feeds.getD i Fd.none).bl.getD k ⟨#[]⟩),true)):=by
 have ha:=h.fdD hi;have hb:=h.fdD hj;obtain⟨a1,a2,a3⟩:=qax ha.v;obtain⟨b1,b2,b3⟩:=qax hb.v;by_cases hc:(x.feeds.getD i Fd.none).hv.getD k false=true∧(x.feeds.getD j Fd.none).hv.getD k false=false
 · obtain⟨c1,c2⟩:=hc;have hka:k<(x.feeds.getD i Fd.none).bl.length:=a_;have ht:((x.feeds.getD i Fd.none).bl.getD k ⟨#[]⟩).size≤8:=by rw[qam hka];exact qbH ha.v _ (List.getElem_mem hka)
   obtain⟨p1,p2⟩:=qmW h.v0 h.key hb a_ c2 ht (ha.bl k hka c1);have hj0:j≠0:=fun e=>by
    subst e;have:=h.full0.2 k a_;rw[c2] at this;cases this
   have e:qbW i j x k={x with feeds:=x.feeds.set j ((x.feeds.getD j Fd.none).put k ((x.feeds.getD i Fd.none).bl.getD k ⟨#[]⟩))}:=by
    unfold qbW Wd.feed;simp only[Int.toNat_natCast];rw[c1,c2,if_pos (show(true&& !false)=true from rfl),hl,p1]
   have es:((qbW i j x k).feeds.getD j Fd.none)=(x.feeds.getD j Fd.none).put k ((x.feeds.getD i Fd.none).bl.getD k ⟨#[]⟩):=by
    rw[e];show(x.feeds.set j _).getD j _=_;rw[List.getD_eq_getElem?_getD,List.getElem?_set_self hj];rfl
   refine⟨by rw[e];exact Gv.setF h hj0 p2,by rw[es];rfl,fun m=> ?_,fun _ _=>⟨hj0,by rw[hl];exact p1⟩⟩;rw[es,c1,Bool.and_true];show((x.feeds.getD j Fd.none).hv.set k true).getD m false=_;rw[qlC,show decide (k<(x.feeds.getD j Fd.none).hv.length)=true from decide_eq_true a_,Bool.and_true]
 · have e:qbW i j x k=x:=by
    unfold qbW Wd.feed;simp only[Int.toNat_natCast];rw[if_neg];simpa using hc
   rw[e];refine⟨Gv.refl j h,rfl,fun m=> ?_,fun c1 c2=>absurd ⟨c1,c2⟩ hc⟩;by_cases hm:m=k
   · subst hm;cases c1:(x.feeds.getD i Fd.none).hv.getD m false
     · simp
     · cases c2:(x.feeds.getD j Fd.none).hv.getD m false
       · exact absurd ⟨c1,c2⟩ hc
       · rfl
   · simp[hm]
theorem qfP(h:WV x)(hij:i≠j)(hi:i<x.feeds.length)(hj:j<x.feeds.length)(hl:(x.feeds.getD i Fd.none).hd.len=(x.feeds.getD j Fd.none).hd.len):∀ n,n≤(x.feeds.getD i Fd.none).hd.len.toNat→
 Gv j x (qby i j x n)∧((qby i j x n).feeds.getD j Fd.none).hd=(x.feeds.getD j Fd.none).hd∧
  (∀ m,((qby i j x n).feeds.getD j Fd.none).hv.getD m false=((x.feeds.getD j Fd.none).hv.getD m false||(decide (m<n)&&(x.feeds.getD i Fd.none).hv.getD m false)))
 |0,_=>⟨Gv.refl j h,rfl,fun m=>by simp[qby]⟩
 |n+1,hn=>by
  obtain⟨g1,g2,g3⟩:=qfP h hij hi hj hl n a_;have hio:=g1.oth i hij;have:=qhp (x:=qby i j x n) (i:=i) (j:=j) (k:=n) g1.wv (by rw[g1.n];exact hi) (by rw[g1.n];exact hj) (by rw[hio,g2];exact hl) (by rw[hio];omega);obtain⟨q1,q2,q3,_⟩:=this;rw[qdB];refine⟨g1.trans q1,q2.trans g2,fun m=> ?_⟩;rw[q3,g3,hio];by_cases hm:m=n
  · subst hm;simp
  · have:decide (m<n+1)=decide (m<n):=by rw[decide_eq_decide];omega
    rw[this];simp[hm]
theorem qfR(h:WV x)(hi:i<x.feeds.length)(hj:j<x.feeds.length)(hL:qbk x i j=true):Gv j x (qa0 x i j):=by
 have hw:=h.head i j;unfold qa0 at hw ⊢;split
 · rename_i hc
   rw[if_pos hc] at hw;simp only[Bool.and_eq_true,beq_iff_eq] at hc;have hc1:=hc.1;unfold qdj at hc1;simp only[Bool.and_eq_true,decide_eq_true_eq] at hc1;have hj0:j≠0:=fun e=>by
    subst e;have:=(h.fdD hi).le;have c:(x.feeds.getD 0 Fd.none).hd.len<(x.feeds.getD i Fd.none).hd.len:=hc1.2;have e0:x.feeds.getD 0 Fd.none=x.f0:=rfl;rw[e0] at c;omega
   simp only[Int.toNat_natCast] at hw ⊢;exact⟨rfl,rfl,rfl,rfl,rfl,k_,fun m hm=>getD_set_ne hm _ _,qly hj0,hw⟩
 · exact Gv.refl j h
theorem qlD(h:WV x)(hij:i≠j)(hi:i<x.feeds.length)(hj:j<x.feeds.length)(hL:qbk x i j=true):Gv j x (qa5 x i j):=by
 have g:=qfR h hi hj hL;unfold qa5;split
 · exact Gv.refl j h
 · split
   · rename_i hl
     exact g.trans (qfP (x:=qa0 x i j) g.wv hij (by rw[g.n];exact hi) (by rw[g.n];exact hj) hl _ (nr_ _)).1
   · exact g
theorem qlE(h:WV x)(hi:i<x.feeds.length)(hj:j<x.feeds.length)(hf:qn3 x j):qa5 x i j=x:=by
 have hle:=(h.fdD hi).le;have e0:(x.feeds.getD j Fd.none).hd.len=x.f0.hd.len:=by rw[hf.1]
 have hw:qa0 x i j=x:=by
  unfold qa0;rw[if_neg];intro hc;rw[Bool.and_eq_true] at hc;have hc1:=hc.1;unfold qdj at hc1;rw[Bool.and_eq_true,decide_eq_true_eq] at hc1;have c:=hc1.2;unfold Wd.feed at c;simp only[Int.toNat_natCast] at c;omega
 have ht:∀ n,n≤(x.feeds.getD j Fd.none).hd.len.toNat→qby i j x n=x:=fun n=>by
  induction n with
  |zero=>intro _;rfl
  |succ n ih=>
   intro hn;rw[qdB,ih a_];unfold qbW Wd.feed;simp only[Int.toNat_natCast];have hv:=qax (h.fdD hj).v;rw[hf.2 n a_];simp
 unfold qa5;rw[hw];split
 · rfl
 · split
   · rename_i hl
     rw[hl];exact ht _ (nr_ _)
   · rfl
theorem qkE:qet x i j=qc9 (x.feeds.getD j Fd.none) (x.feeds.getD i Fd.none).hd (qcv ((lvs x.f0.bl).take (x.feeds.getD i Fd.none).hd.len.toNat) (x.feeds.getD j Fd.none).hd.len):=rfl
theorem qnI(h:WV x)(hj:j<x.feeds.length):((qa0 x i j).feeds.getD j Fd.none).hd=(x.feeds.getD j Fd.none).hd∨(((qa0 x i j).feeds.getD j Fd.none).hd=(x.feeds.getD i Fd.none).hd∧(x.feeds.getD j Fd.none).hd.len<(x.feeds.getD i Fd.none).hd.len):=by
 unfold qa0;split
 · rename_i hc
   rw[Bool.and_eq_true,beq_iff_eq] at hc;obtain⟨c1,c2⟩:=hc;refine .inr ⟨?_,?_⟩
   · show(x.feeds.set (j:Int).toNat (qet x i j).1 |>.getD j Fd.none).hd=_;rw[Int.toNat_natCast,List.getD_eq_getElem?_getD,List.getElem?_set_self hj,Option.getD_some];rw[qkE] at c2 ⊢;have hv:=(h.fdD hj).v;have h0:qdJ (x.feeds.getD j Fd.none) (x.feeds.getD i Fd.none).hd (qcv ((lvs x.f0.bl).take (x.feeds.getD i Fd.none).hd.len.toNat) (x.feeds.getD j Fd.none).hd.len)=0:=by
      unfold qc9 at c2;rw[hv] at c2;exact c2
     rw[qd4 hv h0];rfl
   · unfold qdj at c1;rw[Bool.and_eq_true,decide_eq_true_eq] at c1;exact c1.2
 · exact .inl rfl
theorem WV.len0(h:WV x){k:Nat}:0≤(x.feeds.getD k Fd.none).hd.len:=by
 by_cases hk:k<x.feeds.length
 · have:=qax (h.fdD hk).v;omega
 · rw[List.getD_eq_getElem?_getD,List.getElem?_eq_none a_];decide
theorem NZ.head(h:WV x)(hz:NZ x)(hi:i<x.feeds.length)(hj:j<x.feeds.length)(hL:qbk x i j=true):NZ (qa0 x i j):=fun k hk=>by
 have g:=qfR h hi hj hL;by_cases hkj:k=j
 · subst hkj;rcases qnI (i:=i) h hj with e|⟨e,e2⟩
   · rw[e] at hk ⊢;exact hz k hk
   · rw[e] at hk;have:=h.len0 (k:=k);omega
 · rw[g.oth k hkj] at hk ⊢;exact hz k hk
theorem NZ.give(h:WV x)(hz:NZ x)(hij:i≠j)(hi:i<x.feeds.length)(hj:j<x.feeds.length)(hL:qbk x i j=true):NZ (qa5 x i j):=by
 have g:=qfR h hi hj hL;have hzh:=hz.head h hi hj hL;unfold qa5;split
 · exact hz
 · split
   · rename_i hl
     obtain⟨g2,g3,g4⟩:=qfP (x:=qa0 x i j) g.wv hij (by rw[g.n];exact hi) (by rw[g.n];exact hj) hl _ (nr_ _);intro k hk;by_cases hkj:k=j
     · subst hkj;rw[show qby i k (qa0 x i k) ((qa0 x i k).feed i).hd.len.toNat=qby i k (qa0 x i k) ((qa0 x i k).feeds.getD i Fd.none).hd.len.toNat from rfl] at hk ⊢;rw[g3] at hk ⊢;exact hzh k hk
     · rw[show qby i j (qa0 x i j) ((qa0 x i j).feed i).hd.len.toNat=qby i j (qa0 x i j) ((qa0 x i j).feeds.getD i Fd.none).hd.len.toNat from rfl] at hk ⊢;rw[g2.oth k hkj] at hk ⊢;exact hzh k hk
   · exact hzh
theorem qph(h:WV x)(hz:NZ x)(hij:i≠j)(hi:i<x.feeds.length)(hj:j<x.feeds.length)(hL:qbk x i j=true)(hb:(i:Int)≠x.bad)(hf:qn3 x i):qn3 (qa5 x i j) j:=by
 have g:=qfR h hi hj hL;have ha:=h.fdD hi;have hbd:=h.fdD hj;obtain⟨l1,l2,l3⟩:=qax h.v0;obtain⟨b1,b2,b3⟩:=qax hbd.v;have hle:=hbd.le;have e0:(x.feeds.getD i Fd.none).hd=x.f0.hd:=hf.1
 -- the head
 have hhd:((qa0 x i j).feeds.getD j Fd.none).hd=x.f0.hd:=by
  by_cases hlt:(x.feeds.getD j Fd.none).hd.len<x.f0.hd.len
  · have hn0:0<x.f0.hd.len:=a_;have hck:qbE (x.feeds.getD j Fd.none).pub x.f0.hd=true:=by
     rw[hbd.pub,←h.pub];have hv:=h.v0;simp only[qaq,Bool.and_eq_true,Bool.or_eq_true] at hv;rcases hv.1.1.1.1.2 with h1|h1
     · simp only[Hd.isZero,Bool.and_eq_true,beq_iff_eq] at h1;omega
     · exact h1
    have htr:=qo5 h.v0 h.wh a_;have hlen:(lvs x.f0.bl).length=x.f0.bl.length:=qcP _;have etk:(lvs x.f0.bl).take x.f0.hd.len.toNat=lvs x.f0.bl:=List.take_of_length_le a_;have hc0:qdJ (x.feeds.getD j Fd.none) x.f0.hd (qcv (lvs x.f0.bl) (x.feeds.getD j Fd.none).hd.len)=0:=by
     by_cases hz0:(x.feeds.getD j Fd.none).hd.len=0
     · exact qo6 hck a_ hz0
     · have hd:(x.feeds.getD j Fd.none).hd=(qbJ x.sec ((lvs x.f0.bl).take (x.feeds.getD j Fd.none).hd.len.toNat)).1:=by
        rcases hbd.hd with h1|h1
        · exact absurd h1 hz0
        · exact h1
       obtain⟨m1,m2⟩:=qfS h.key (qcV l2 (x.feeds.getD j Fd.none).hd.len.toNat);have hdg:(x.feeds.getD j Fd.none).hd.dg=qbN ((lvs x.f0.bl).take (x.feeds.getD j Fd.none).hd.len.toNat):=by rw[←m2,←hd]
       have hgl:=qpn (l:=lvs x.f0.bl) (qoV h.v0) (m:=(x.feeds.getD j Fd.none).hd.len.toNat) a_ a_;rw[←hdg,htr,hlen,l3,show(((x.feeds.getD j Fd.none).hd.len.toNat:Nat):Int)=(x.feeds.getD j Fd.none).hd.len by omega] at hgl;unfold qdJ;rw[hck,hgl,if_neg n_,if_neg,if_neg a_,if_neg a_,if_neg k_];intro hs;have:=Hd.same_iff.1 hs;rw[this] at hlt;omega
    have hT:qet x i j=((x.feeds.getD j Fd.none).grow x.f0.hd,0):=by
     rw[qkE,e0,etk];exact qd4 hbd.v hc0
    have hM:qdj x i j=true:=by
     unfold qdj;rw[hL,Bool.true_and];show decide ((x.feeds.getD j Fd.none).hd.len<(x.feeds.getD i Fd.none).hd.len)=true;rw[e0];exact decide_eq_true hlt
    unfold qa0;rw[hT,hM,if_pos (show(true&&((0:Int)==0))=true from rfl)];show(x.feeds.set (j:Int).toNat _ |>.getD j Fd.none).hd=_;rw[Int.toNat_natCast,List.getD_eq_getElem?_getD,List.getElem?_set_self hj];rfl
  · have hw:qa0 x i j=x:=by
     unfold qa0;rw[if_neg];intro hc;rw[Bool.and_eq_true] at hc;have hc1:=hc.1;unfold qdj at hc1;rw[Bool.and_eq_true,decide_eq_true_eq] at hc1;have c:(x.feeds.getD j Fd.none).hd.len<(x.feeds.getD i Fd.none).hd.len:=hc1.2;rw[e0] at c;omega
    rw[hw];have hl:(x.feeds.getD j Fd.none).hd.len=x.f0.hd.len:=a_;by_cases hz0:x.f0.hd.len=0
    · rw[hz j a_];exact(hz 0 hz0).symm
    · have d1:(x.feeds.getD j Fd.none).hd=(qbJ x.sec ((lvs x.f0.bl).take (x.feeds.getD j Fd.none).hd.len.toNat)).1:=by
       rcases hbd.hd with h1|h1
       · omega
       · exact h1
      have d2:(x.feeds.getD i Fd.none).hd=(qbJ x.sec ((lvs x.f0.bl).take (x.feeds.getD i Fd.none).hd.len.toNat)).1:=by
       rcases ha.hd with h1|h1
       · rw[e0] at h1;omega
       · exact h1
      rw[←e0,d1,d2,hl,e0]
 have hio:=g.oth i hij;have hgi:((qa0 x i j).feeds.getD i Fd.none).hd=x.f0.hd:=by rw[hio];exact e0
 unfold qa5;rw[if_neg hb,if_pos (by show((qa0 x i j).feeds.getD i Fd.none).hd.len=((qa0 x i j).feeds.getD j Fd.none).hd.len;rw[hgi,hhd])];obtain⟨g2,g3,g4⟩:=qfP (x:=qa0 x i j) g.wv hij (by rw[g.n];exact hi) (by rw[g.n];exact hj) (by rw[hgi,hhd]) ((qa0 x i j).feeds.getD i Fd.none).hd.len.toNat (nr_ _)
 show qn3 (qby i j (qa0 x i j) ((qa0 x i j).feeds.getD i Fd.none).hd.len.toNat) j;refine⟨by rw[g3,hhd,g2.f0,g.f0],fun m hm=> ?_⟩;have hvl:=qax (g2.wv.fdD (x:=qby i j (qa0 x i j) ((qa0 x i j).feeds.getD i Fd.none).hd.len.toNat) (j:=j) (by rw[g2.n,g.n];exact hj)).v;have e3:((qby i j (qa0 x i j) ((qa0 x i j).feeds.getD i Fd.none).hd.len.toNat).feeds.getD j Fd.none).hd.len=x.f0.hd.len:=by rw[g3,hhd]
 have hml:(m:Int)<x.f0.hd.len:=a_;rw[g4 m,hio,e0];have:=qax ha.v;have h2:(x.feeds.getD i Fd.none).hd.len=x.f0.hd.len:=by rw[e0]
 rw[hf.2 m a_,show decide (m<x.f0.hd.len.toNat)=true from decide_eq_true a_];simp
end
end Go.Proofs.YtekaaekpdebloaaGreatDoor
namespace Go.Proofs.YtekaaekpdebloaaGreatDoor
open Go.RowKit

section
variable {B B' C C' q o:Nat} {w w':World} {x:Wd} {vF vL vA vN:Value} {s b:Int}
theorem BX.of(h:w.heap[q]? =some (.cells #[.int .i64 s,.int .i64 b,vF,vL,vA,vN] 28 (0,0))):BX q 0 w s b vF vL vA vN:=by
 obtain⟨c0,c1,c2,c3,c4,c5,_⟩:=qaa h;exact⟨c0,c1,c2,c3,c4,c5,_,_,h,e_⟩
end
end Go.Proofs.YtekaaekpdebloaaGreatDoor
namespace Go.Proofs.YtekaaekpdebloaaGreatDoor

theorem qhy{x:Wd}(h:WV x){l:Int×Int}(hl:l ∈ x.links):∃ i j:Nat,l=((i:Int),(j:Int))∧i<j∧j<x.feeds.length∧qbk x i j=true∧qbk x j i=true:=by
 have h1:=(qc6.1 h.ln).1 l hl;unfold qc5 at h1;rw[Bool.and_eq_true,qak,qak] at h1;obtain⟨⟨a1,a2⟩,a3,a4⟩:=h1;refine⟨l.1.toNat,l.2.toNat,Prod.ext (by show l.1=_;omega) (by show l.2=_;omega),a_,a_,?_,?_⟩
 · refine qd6.2 ?_;have e:qbw (l.1.toNat:Nat) (l.2.toNat:Nat)=l:=by unfold qbw;exact Prod.ext (by show min _ _=l.1;omega) (by show max _ _=l.2;omega)
   rw[e];exact hl
 · refine qd6.2 ?_;have e:qbw (l.2.toNat:Nat) (l.1.toNat:Nat)=l:=by unfold qbw;exact Prod.ext (by show min _ _=l.1;omega) (by show max _ _=l.2;omega)
   rw[e];exact hl
theorem qho{x:Wd}{i j:Nat}(h:WV x)(hij:i≠j)(hi:i<x.feeds.length)(hj:j<x.feeds.length)(hL:qbk x i j=true):Cm x (qa5 x i j):=by
 have g:=qlD h hij hi hj hL;refine⟨g.sec,g.bad,g.links,g.asked,g.net,g.n,g.f0,g.wv,fun hz=>hz.give h hij hi hj hL,fun k hk hf=> ?_⟩;by_cases hkj:k=j
 · subst hkj;rw[qlE h hi hj hf]
 · exact g.oth k hkj
theorem qf3{x y:Wd}(h:y.links=x.links)(a b:Int):qbk y a b=qbk x a b:=by unfold qbk;rw[h]
theorem qnM{x:Wd}(h:WV x){l:Int×Int}(hl:l ∈ x.links):Cm x (qft x l):=by
 obtain⟨i,j,rfl,hij,hj,L1,L2⟩:=qhy h hl;have c1:=qho h (i:=i) (j:=j) a_ a_ hj L1;exact c1.trans (qho c1.wv (i:=j) (j:=i) a_ (by rw[c1.n];omega) (by rw[c1.n];omega) (by rw[qf3 c1.links];exact L2))
theorem qmZ{x:Wd}(h:WV x):∀ k,k≤x.links.length→Cm x (qdb x.links x k)
 |0,_=>Cm.refl h
 |k+1,hk=>by
  have ih:=qmZ h k a_;rw[qer a_];exact ih.trans (qnM ih.wv (by rw[ih.links];exact List.getElem_mem a_))
theorem qfu{x:Wd}(h:WV x):∀ k,Cm x (qdH x.links x k)
 |0=>Cm.refl h
 |k+1=>by
  have ih:=qfu h k;have:=qmZ ih.wv x.links.length (by rw[ih.links];exact nr_ _);rw[ih.links] at this;exact ih.trans this
theorem WV.quiet{x:Wd}(h:WV x):WV x.quiet:=
 ⟨h.set,h.v0,h.wh,h.ln,by show(List.replicate _ _).length=_;rw[List.length_replicate];exact h.na,Nat.zero_le _,h.fd,fun j hj=>by
  have e:x.quiet.asked[j]=[]:=List.getElem_replicate ..;rw[e];rfl,fun j hj=>by exact absurd hj (Nat.not_lt_zero _)⟩
theorem qhM{x:Wd}(h:WV x):Cm x.quiet (qgl x):=qfu h.quiet x.feeds.length
def Sim(st:List Bool)(y:Wd):Prop:=∀ k,st.getD k false=true→k<y.feeds.length∧qn3 y k
theorem qpc{st:List Bool}{y:Wd}{i j:Nat}(h:WV y)(hz:NZ y)(hij:i≠j)(hi:i<y.feeds.length)(hj:j<y.feeds.length)(hL:qbk y i j=true)(hs:Sim st y):
 Sim (if (st.getD i false&&(i:Int)!=y.bad)=true then st.set j true else st) (qa5 y i j):=by
 have c:=qho h hij hi hj hL;have hs':Sim st (qa5 y i j):=fun k hk=>⟨by rw[c.n];exact(hs k hk).1,c.full (hs k hk).1 (hs k hk).2⟩
 split
 · rename_i hc
   rw[Bool.and_eq_true] at hc;intro k hk;rw[qlC,Bool.or_eq_true] at hk;rcases hk with hk|hk
   · exact hs' k hk
   · simp only[Bool.and_eq_true,decide_eq_true_eq] at hk;obtain⟨rfl,_⟩:=hk;exact⟨by rw[c.n];exact hj,qph h hz hij hi hj hL (by have:=hc.2;simpa using this) (hs i hc.1).2⟩
 · exact hs'
theorem qpp{st:List Bool}{y:Wd}{l:Int×Int}(h:WV y)(hz:NZ y)(hl:l ∈ y.links)(hs:Sim st y):Sim (qoI y.bad st l) (qft y l):=by
 obtain⟨i,j,rfl,hij,hj,L1,L2⟩:=qhy h hl;have c1:=qho h (i:=i) (j:=j) a_ a_ hj L1;have s1:=qpc h hz (i:=i) (j:=j) a_ a_ hj L1 hs;have s2:=qpc c1.wv (c1.nz hz) (i:=j) (j:=i) a_ (by rw[c1.n];omega) (by rw[c1.n];omega) (by rw[qf3 c1.links];exact L2) s1;rw[c1.bad] at s2;exact s2
theorem qpq{st:List Bool}{y:Wd}(h:WV y)(hz:NZ y)(hs:Sim st y):∀ k,k≤y.links.length→Sim (qoN y.bad y.links st k) (qdb y.links y k)
 |0,_=>hs
 |k+1,hk=>by
  have ih:=qpq h hz hs k a_;have c:=qmZ h k a_;rw[qer a_,qoR a_];have:=qpp c.wv (c.nz hz) (l:=y.links[k]) (by rw[c.links];exact List.getElem_mem a_) ih;rw[c.bad] at this;exact this
theorem qpt{y:Wd}(h:WV y)(hz:NZ y):∀ k,Sim (qoJ y.bad y.links y.feeds.length k) (qdH y.links y k)
 |0=>fun k hk=>by
  have hn:=(qb5 h.set).2.1;unfold qoJ at hk;rw[qlC,Bool.or_eq_true] at hk;rcases hk with hk|hk
  · rw[List.getD_eq_getElem?_getD,List.getElem?_replicate] at hk;split at hk <;> simp at hk
  · simp only[Bool.and_eq_true,decide_eq_true_eq] at hk;obtain⟨rfl,_⟩:=hk;exact⟨by show 0<y.feeds.length;omega,h.full0⟩
 |k+1=>by
  have ih:=qpt h hz k;have c:=qfu h k;have:=qpq c.wv (c.nz hz) ih y.links.length (by rw[c.links];exact nr_ _);rw[c.bad,c.links] at this;exact this
theorem qoS{x:Wd}(h:WV x)(hz:NZ x):∀ m ∈ qoK (qgl x),∃ k:Nat,m=k∧k<(qgl x).feeds.length∧qn3 (qgl x) k:=by
 intro m hm;have c:=qhM h;unfold qoK at hm;rw[qcq.2 c.wv,if_pos rfl] at hm;obtain⟨k,rfl,hk,hs⟩:=qoZ.1 hm;rw[c.bad,c.links,c.n] at hs;exact⟨k,rfl,hk,(qpt h.quiet (show NZ x.quiet from hz) x.feeds.length k hs).2⟩
theorem qkq{x:Wd}(h:WV x):(qgl x).f0=x.f0∧(qgl x).links=x.links∧(∀ j (hj:j<(qgl x).asked.length),(qgl x).asked[j]=[])∧(qgl x).net=[]∧(qgl x).feeds.length=x.feeds.length:=by
 have c:=qhM h;refine⟨c.f0,c.links,fun j hj=> ?_,c.net,c.n⟩;have e:=c.asked;have:∀ (l:List (List (Int×Int))) (hl:j<l.length),l=List.replicate x.asked.length []→l[j]=[]:=fun l hl e=>by subst e;rw[List.getElem_replicate]
 exact this _ hj e
end Go.Proofs.YtekaaekpdebloaaGreatDoor
namespace Go.Proofs.YtekaaekpdebloaaGreatDoor

open Go.RowKit

theorem HW.only{g q z:Nat}{W0 w w':World}{f:Fd}{vb vh:Value}{h:Hd}{gv:Value}{gl:List Int}(k:HW g q z W0 w f vb vh h gv gl)(ho:qbb g w w')(hg:W0.heap.size≤g)(hgl:g<w.heap.size)(hq:g≠q)(hz:g≠z):HW g q z W0 w' f vb vh h gv gl:=
 ⟨k.fb.only ho (Nat.lt_succ_self g) hq,(ho.block z (Array.getElem?_eq_some_iff.1 k.hd).1 (fun e=>hz (Option.some.inj e).symm)).trans k.hd,k.gr.only ho (Nat.lt_succ_self g),k.bel.trans (ho.below hg hgl)⟩
def qjG(s b:Int)(n:Nat):Wd:=⟨s,b,List.replicate n ⟨qhr s,Hd.zero,[],[]⟩,[],List.replicate n [],[]⟩
theorem qgH{p:Int}(h:key p=true):qaq ⟨p,Hd.zero,[],[]⟩=true:=by
 unfold qaq;rw[h];rfl
theorem qmk{s b:Int}{n:Nat}(h:qfb s n b=true):DW (qjG s b n):=by
 obtain⟨h1,h2,h3,_,_⟩:=qb5 h;have hf0:(qjG s b n).f0=⟨qhr s,Hd.zero,[],[]⟩:=by
  unfold Wd.f0 qjG;simp only;rw[qam n_];simp
 refine⟨⟨by simpa[qjG] using h,by rw[hf0];exact qgH (qfw h1),by rw[hf0];rfl,rfl,by simp[qjG],Nat.zero_le _,fun j hj=> ?_,fun j hj=> ?_,fun j hj=>absurd hj (Nat.not_lt_zero _)⟩,fun k hk=> ?_⟩
 · rw[hf0];simp only[qjG,List.getElem_replicate];exact⟨qgH (qfw h1),rfl,Int.le_refl _,.inl rfl,fun i hi=>absurd hi (Nat.not_lt_zero _)⟩
 · simp only[qjG,List.getElem_replicate];rfl
 · unfold qjG;simp only;rw[List.getD_eq_getElem?_getD,List.getElem?_replicate];split <;> rfl
section
variable {x:Wd}
theorem DW.grow(h:DW x)(t:ByteArray):DW (qd1 x t):=by
 refine⟨h.v.grow t,?_⟩;unfold qd1;split
 · exact h.z
 · rename_i hc
   obtain⟨m1,m2,m3⟩:=h.v.more (t:=t) a_ a_;have h0:=qax h.v.v0;exact h.z.set fun e=>by rw[m3] at e;omega
theorem DW.turn(h:DW x)(a b:Int)(up:Bool):DW (qeh x a b up):=by
 refine⟨h.v.turn a b up,?_⟩;unfold qeh;split
 · exact h.z
 · exact h.z
theorem DW.head(h:DW x)(a b:Int):DW (qa0 x a b):=by
 refine⟨h.v.head a b,?_⟩;by_cases hc:qdj x a b=true
 · have hc':=hc;unfold qdj at hc';rw[Bool.and_eq_true] at hc';obtain⟨i,j,rfl,rfl,hi,hj,_,_⟩:=h.v.fd_ hc'.1;exact h.z.head h.v hi hj hc'.1
 · unfold qa0;rw[if_neg (by rw[Bool.and_eq_true];exact fun e=>hc e.1)];exact h.z
theorem NZ.feed(h:NZ x)(a:Int):(x.feed a).hd.len=0→(x.feed a).hd=Hd.zero:=h a.toNat
theorem NZ.store(h:NZ x)(p:Pc):NZ (qd2 x p):=by
 unfold qd2;split
 · exact h
 · split
   · rename_i hput
     obtain⟨t1,t2,t3,t4,t5⟩:=qfO hput;rw[t5];exact h.set (x:=x) (fun e=>h.feed p.to_ e)
   · exact h
theorem DW.do_(h:DW x)(e:Ev):DW (wdo x e):=by
 refine⟨h.v.do_ e,?_⟩;unfold wdo;repeat' split
 · exact(h.grow _).z
 iterate 2
  · exact(h.turn _ _ _).z
 · exact(h.head _ _).z
 · unfold qiT;split <;> exact h.z
 · unfold qbO;split <;> exact h.z
 iterate 2
  · unfold qgz;split
    · split
      · exact h.z
      · exact NZ.store (x:={x with net:=x.net.eraseIdx e.a.toNat}) h.z _
    · exact h.z
 · exact h.z
end
theorem Em.sl_{v:Value}(h:Em v):∃ A c,v=.slice A 0 c:=by obtain⟨A,c,h,_⟩:=h;exact⟨A,c,h⟩
theorem Em.rp{v:Value}(h:Em v)(w:World):RP w v []:=by
 obtain⟨A,c,rfl,h1,h2⟩:=h;exact⟨A,c,rfl,⟨Nat.zero_le _,h1⟩,h2,fun h=>by simp at h⟩
theorem Em.pieces{v:Value}(h:Em v)(w:World):qbx w v []:=by
 obtain⟨A,c,rfl,h1,h2⟩:=h;exact⟨fun _=>.int .i64 0,⟨A,c,rfl,⟨Nat.zero_le _,h1⟩,h2,fun h=>by simp at h⟩,fun j hj=>an_⟩
theorem qno{B:Nat}{w:World}{s b:Int}{n:Nat}{vF vL vA vN:Value}{F G:Nat→Value}(h1:ON 6 B 50 w vF n F)(h2:qjJ (qhr s) n F)(h3:ON 1 B 54 w vA n G)(h4:qk0 n G)(h5:Em vL)(h6:Em vN):WdS w (qjG s b n) vF vL vA vN:=by
 intro w' hk;refine⟨h2.feeds (h1.keepT hk e_).rn,h5.rp _,⟨G,?_,fun j hj=> ?_⟩,h6.pieces _⟩
 · show RN 1 w' vA (List.replicate n ([]:List (Int×Int))).length G;rw[List.length_replicate];exact(h3.keepT hk e_).rn
 · have hj':j<n:=by simpa[qjG] using hj
   simp only[qjG,List.getElem_replicate];exact(h4 j hj').rp _
end Go.Proofs.YtekaaekpdebloaaGreatDoor
namespace Go.Proofs.YtekaaekpdebloaaGreatDoor
open Go.RowKit
attribute [local go_sem ↓] Go.wp_at_zero Go.wp_at_succ

def qi5(g P:Nat)(w:World)(e:Ending)(w':World):Prop:=∃ x uF uL uA uN,e=.returned (.agg #[.int .i64 x.sec,.int .i64 x.bad,uF,uL,uA,uN])∧DW x∧WdS w' x uF uL uA uN∧Rdr w' g P∧qbb g w w'
section
variable {g P P' q y:Nat} {w wr w2:World} {x x':Wd} {vF vL vA vN uF uL uA uN:Value}
theorem qg6.put(h:qg6 g P w q y x vF vL vA vN wr)(hb:bB wr w2)(hs:WdS w2 x' uF uL uA uN)(hd:DW x'):
 qg6 g P w q y x' uF uL uA uN ((((((w2.setCell ⟨y,0,none⟩ (.int .i64 x'.sec)).setCell ⟨y,1,none⟩ (.int .i64 x'.bad)).setCell ⟨y,2,none⟩ uF).setCell ⟨y,3,none⟩ uL).setCell ⟨y,4,none⟩ uA).setCell ⟨y,5,none⟩ uN):=by
 have h2:=h.below hb;have hgy:g<y:=by have:=h.hg;have:=h.hy;omega
 exact⟨(qcN (by have:=h.hy;omega) _ _ _ _ _ _).trans h2.z,qas (i:=5) (qas (i:=4) (qas (i:=3) (qas (i:=2) (qas (i:=1) (qas (i:=0) h2.b _) _) _) _) _) _,
  hs.set6 h2.b _ _ _ _ _ _,qcw h2.r hgy _ _ _ _ _ _,qbZ h2.o (by have:=h.hq;have:=h.hy;omega) _ _ _ _ _ _,hd,h.hq,h.hy,h.hg⟩
theorem qg6.ret(h:qg6 g P w q y x vF vL vA vN wr):qi5 g P w (.returned (.agg #[.int .i64 x.sec,.int .i64 x.bad,vF,vL,vA,vN])) ((((((wr.setCell ⟨q,0,none⟩ (.int .i64 x.sec)).setCell ⟨q,1,none⟩ (.int .i64 x.bad)).setCell ⟨q,2,none⟩ vF).setCell ⟨q,3,none⟩ vL).setCell ⟨q,4,none⟩ vA).setCell ⟨q,5,none⟩ vN):=
 ⟨x,_,_,_,_,rfl,h.d,h.s.set6 h.z _ _ _ _ _ _,qcw h.r h.hg _ _ _ _ _ _,qbZ h.o (by have:=h.hq;omega) _ _ _ _ _ _⟩
end
theorem qnW(x:Wd)(t:ByteArray):(qd1 x t).feeds.length=x.feeds.length:=by unfold qd1;split <;> simp
theorem qnZ(x:Wd)(a b:Int)(u:Bool):(qeh x a b u).feeds.length=x.feeds.length:=by unfold qeh;split <;> rfl
def qoC(g P:Nat)(w:World)(q N:Nat)(wx:World)(s4:Value):Prop:=
 ∃ (y m:Nat) (s b:Int) (A:Option Addr) (c:Nat) (vL vA vN:Value),s4=.pointer (some ⟨y,0,none⟩)∧wx.heap[q]? =some (.cells #[.int .i64 0,.int .i64 0,.slice none 0 0,.slice none 0 0,.slice none 0 0,.slice none 0 0] 28 (0,0))∧wx.heap[y]? =some (.cells #[.int .i64 s,.int .i64 b,.slice A m c,vL,vA,vN] 28 (0,0))∧
  Rdr wx g P∧qbb g w wx∧q<y∧m≤6∧(m=0∨(m=N∧∃ x:Wd,x.sec=s∧x.bad=b∧x.feeds.length=N∧DW x∧WdS wx x (.slice A m c) vL vA vN))
theorem qiu(g P:Nat)(w:World)(hr:Rdr w g P)(hP:P≤90000):Calls Tryz.prog 62 #[.pointer (some ⟨g,0,none⟩)] w (qi5 g (P+200) w):=by
 have hgl:=hr.lt;obtain⟨W0,HW0⟩:=nm_ (w.alloc (.cells #[.int .i64 0,.int .i64 0,.slice none 0 0,.slice none 0 0,.slice none 0 0,.slice none 0 0] 28));have hb0:bB w W0:=by rw[←HW0.out];exact qab (bR_ _ _) _
 have hz0:W0.heap[w.heap.size]? =some (.cells #[.int .i64 0,.int .i64 0,.slice none 0 0,.slice none 0 0,.slice none 0 0,.slice none 0 0] 28 (0,0)):=by rw[←HW0.out];exact heap_alloc_new _ _
 have hr0:=hr.below hb0;have ho0:qbb g w W0:=qbb.of_below hb0;have hne:∀ k,w.heap.size≤k→some k≠some g:=fun k hk e=>by have:=Option.some.inj e;omega
 have HNE:=hI_ hne;clear hne hb0 hr;go_enter Tryz.func62,Tryz.ntmps62
 go_wp2_with fail
 rw[HW0.out];refine(qan g P 5 W0 hr0 a_ a_ a_).mono ?_;rintro e w1 ⟨x,rfl,x1,x2,r1,o1⟩;obtain⟨N,hN⟩:∃ N:Nat,2+x=(N:Int):=⟨(2+x).toNat,a_⟩
 have hN2:2≤N:=a_;have hN6:N≤6:=a_;have ho1:=ho0.trans o1;have hz1:=(o1.block _ (qai hz0) (HNE.out _ (nr_ _))).trans hz0;have HZ1:=hI_ hz1;have HO1:=hI_ ho1;clear hz0 ho0 hr0 o1 hz1 ho1;go_upto_region 2 with fail
 clear hN x1 x2;go_cut [4] (fun s4 wx=>qoC g (P+20) w w.heap.size N wx s4)
 case first=>
  go_wp2_with fail
  refine(qjz g (P+1) w1 r1 a_).mono ?_;rintro e w2 ⟨s,rfl,s1,s2,r2,o2⟩;have HO2:=hI_ (HO1.out.trans o2);have HZ2:=hI_ ((o2.block _ (qai HZ1.out) (HNE.out _ (nr_ _))).trans HZ1.out);clear o2 r1;go_wp2_with fail
  refine(qan g (P+1+2) (N+2) w2 r2 a_ a_ a_).mono ?_;rintro e w3 ⟨u,rfl,u1,u2,r3,o3⟩;have HO3:=hI_ (HO2.out.trans o3);have HZ3:=hI_ ((o3.block _ (qai HZ2.out) (HNE.out _ (nr_ _))).trans HZ2.out);have HR3:=hI_ r3;clear o3 r2 r3;obtain⟨ok,HOK⟩:=nm_ (qfb s N (u/2*2-1));cases ok
  · go_wp2_with fail
    refine(qeE HOK w3).mono ?_;rintro e w4 ⟨vF,vL,vA,vN,F,G,rfl,f1,f2,f3,f4,f5,f6,b4⟩;obtain⟨A,c,rfl⟩:=f1.rn.sl;obtain⟨A2,c2,rfl⟩:=f3.rn.sl;obtain⟨A3,c3,rfl⟩:=f5.sl_;obtain⟨A4,c4,rfl⟩:=f6.sl_;have HO4:=hI_ (HO3.out.thenB b4);have HZ4:=hI_ ((b4.block _ (qai HZ3.out)).trans HZ3.out);have HR4:=hI_ (HR3.out.below b4);clear b4 f1 f2 f3 f4 f5 f6;go_wp2_with fail
    go_meet;exact⟨w4.heap.size,0,_,_,_,_,_,_,_,rfl,qau HZ4.out,heap_alloc_new _ _,(HR4.out.below (qab (bR_ _ _) _)).mono a_,HO4.out.thenB (qab (bR_ _ _) _),qai HZ4.out,a_,.inl rfl⟩
  · go_wp2_with fail
    refine(qdu HOK w3).mono ?_;rintro e w4 ⟨vF,vL,vA,vN,F,G,rfl,f1,f2,f3,f4,f5,f6,b4⟩;have HS4:=hI_ (qno (b:=u/2*2-1) f1 f2 f3 f4 f5 f6);obtain⟨A,c,rfl⟩:=f1.rn.sl;obtain⟨A2,c2,rfl⟩:=f3.rn.sl;obtain⟨A3,c3,rfl⟩:=f5.sl_;obtain⟨A4,c4,rfl⟩:=f6.sl_;have HO4:=hI_ (HO3.out.thenB b4);have HZ4:=hI_ ((b4.block _ (qai HZ3.out)).trans HZ3.out);have HR4:=hI_ (HR3.out.below b4);clear b4 f1 f2 f3 f4 f5 f6;go_wp2_with fail
    go_meet;exact⟨w4.heap.size,N,_,_,_,_,_,_,_,rfl,qau HZ4.out,heap_alloc_new _ _,(HR4.out.below (qab (bR_ _ _) _)).mono a_,HO4.out.thenB (qab (bR_ _ _) _),qai HZ4.out,a_,
     .inr ⟨rfl,qjG s (u/2*2-1) N,rfl,rfl,by simp[qjG],qmk HOK.out,HS4.out.below (qab (bR_ _ _) _)⟩⟩
 case rest=>
  obtain⟨y,m,s,b,A,c,vL,vA,vN,rfl,hz,hy,hrd,hon,hqy,hm6,hx⟩:=hcut;obtain⟨w4,rfl⟩:∃ W,W=wc:=⟨_,rfl⟩
  have y0:=qaa hy;obtain⟨bb,hbb⟩:∃ bb,((m:Int)==0)=bb:=⟨_,rfl⟩
  have HZ:=hI_ hz;have HY:=hI_ hy;have HX:=hI_ hx;have HRD:=hI_ hrd;have HON:=hI_ hon;have HBB:=hI_ hbb;clear hz hy hx hon;go_upto_if 29 with fail
  clear hbb;go_cut [] (fun wx=>∃ (x:Wd) (uF uL uA uN:Value),x.feeds.length=N∧qg6 g (P+20) w w.heap.size y x uF uL uA uN wx)
  case first=>
   cases bb
   · go_wp2_with fail
     go_meet;have hm0:¬ m=0:=fun e=>by have:=HBB.out;subst e;cases this
     rcases HX.out with h|⟨rfl,x,rfl,rfl,hl,hd,hs⟩
     · exact absurd h hm0
     · exact⟨x,_,_,_,_,hl,⟨HZ.out,HY.out,hs,HRD.out,HON.out,hd,rfl,hqy,hgl⟩⟩
   · have HOK:Hid (qfb 5 N (-1)=true):=hI_ (by
      unfold qfb;rw[qak.2 (show 1≤(N:Int)∧(N:Int)≤6 by omega)];rfl)
     go_wp2_with fail
     refine(qdu HOK w4).mono ?_;rintro e w5 ⟨uF,uL,uA,uN,F,G,rfl,f1,f2,f3,f4,f5,f6,b4⟩;have HS5:=hI_ (qno (b:= -1) f1 f2 f3 f4 f5 f6);obtain⟨A1,c1,rfl⟩:=f1.rn.sl;obtain⟨A2,c2,rfl⟩:=f3.rn.sl;obtain⟨A3,c3,rfl⟩:=f5.sl_;obtain⟨A4,c4,rfl⟩:=f6.sl_;have HB4:=hI_ b4;have hy5:=(b4.block _ (qai HY.out)).trans HY.out;obtain⟨z0,z1,z2,z3,z4,z5,zf⟩:=qaa hy5;have HY5:=hI_ hy5;clear b4 f1 f2 f3 f4 f5 f6 y0 hy5;go_wp2_with fail
     go_meet;refine⟨qjG 5 (-1) N,.slice A1 N c1,.slice A3 0 c3,.slice A2 N c2,.slice A4 0 c4,by simp[qjG],?_⟩;have hgy:g<y:=a_;exact⟨(qcN a_ _ _ _ _ _ _).trans ((HB4.out.block _ (qai HZ.out)).trans HZ.out),qas (i:=5) (qas (i:=4) (qas (i:=3) (qas (i:=2) (qas (i:=1) (qas (i:=0) HY5.out _) _) _) _) _) _,
      HS5.out.set6 HY5.out _ _ _ _ _ _,qcw (HRD.out.below HB4.out) hgy _ _ _ _ _ _,qbZ (HON.out.thenB HB4.out) a_ _ _ _ _ _ _,qmk HOK.out,rfl,hqy,hgl⟩
  case rest=>
   obtain⟨x,uF,uL,uA,uN,hxn,hW⟩:=hcut;obtain⟨w5,rfl⟩:∃ W,W=wc:=⟨_,rfl⟩
   clear y0 HZ HY HX HRD HON HBB hrd hm6;have HW5:=hI_ hW;have HXN:=hI_ hxn;clear hxn hW;go_wp2_with fail
   refine(qan g (P+20) 7 w5 HW5.out.r a_ a_ a_).mono ?_;rintro e w6 ⟨k,rfl,k1,k2,r6,o6⟩;have HW6:=hI_ (HW5.out.only o6 r6);clear r6 o6;go_wp2_with fail
   go_loopw [7] (fun i wr=>∃ (x:Wd) (uF uL uA uN:Value) (i':Nat),i=.int .i64 i'∧(i':Int)≤k∧x.feeds.length=N∧qg6 g (P+21+13*i') w w.heap.size y x uF uL uA uN wr) (fun i _=>(k-intOf i).toNat)
   case atStart=>exact⟨x,uF,uL,uA,uN,0,rfl,a_,HXN.out,HW6.out.mono a_⟩
   case round=>
    obtain⟨x,uF,uL,uA,uN,i,rfl,hik,hxn,hW⟩:=hrel;obtain⟨⟨A1,c1,rfl⟩,⟨A2,c2,rfl⟩,⟨A3,c3,rfl⟩,⟨A4,c4,rfl⟩⟩:=hW.s.sl;have HW:=hI_ hW;have HXN:=hI_ hxn;clear hxn;by_cases hlt:(i:Int)<k
    · have y0:=qaa hW.b;have hyl:=qai hW.b;clear hW;go_wp2_with fail
      go_region_with
       (first
         |(go_at_call 97;refine(qc4 g (P+21+13*i) _ (HW.out.r.below i_) a_).mono ?_;rintro e w8 ⟨t,rfl,ht,r8,o8⟩
           have HW8:=hI_ (HW.out.only ((qbb.of_below i_).trans o8) r8);have t0:=qaa HW8.out.b;clear r8 o8)
         |(go_at_call 117;refine(qir x t _ _ _ _ w8 HW8.out.s (HW8.out.d.v.wi.sml a_) HW8.out.d.v.wi.n1 (fun s hs=>Nat.le_trans (HW8.out.d.v.wi.txt s hs) s_)).mono ?_;rintro e w9 ⟨vF',vL',vA',vN',rfl,hs9,hb9⟩
           obtain⟨x',HX'⟩:∃ x',Hid (qd1 x t=x'):=⟨_,hI_ rfl⟩
           rw[HX'.out] at hs9;rw[HX'.out];obtain⟨⟨B1,d1,rfl⟩,⟨B2,d2,rfl⟩,⟨B3,d3,rfl⟩,⟨B4,d4,rfl⟩⟩:=hs9.sl;have HS9:=hI_ hs9;have HB9:=hI_ hb9;obtain⟨s0,s1,s2,s3,s4,s5,sf⟩:=qaa (HW8.out.below hb9).b;clear hs9 hb9 t0 y0))
      all_goals
       go_wp2
       go_roundw
       case rel=>exact⟨x',_,_,_,_,i+1,t_,a_,by rw[←HX'.out,qnW];exact HXN.out,(HW8.out.put HB9.out HS9.out (by rw[←HX'.out];exact HW8.out.d.grow t)).mono a_⟩
       case measure=>simp[intOf];omega
    · clear hW;go_wp2_with fail
      refine(qan g (P+21+13*i) 8 _ HW.out.r a_ a_ a_).mono ?_;rintro e w7 ⟨k',rfl,k'1,k'2,r7,o7⟩;have HW7:=hI_ (HW.out.only o7 r7);clear r7 o7;have hN0:(1:Int)≤(N:Int):=a_;have hNm:(N:Int)≤1000000:=a_;go_wp2_with fail
      go_loopw [8] (fun i wr=>∃ (x:Wd) (uF uL uA uN:Value) (i':Nat),i=.int .i64 i'∧(i':Int)≤k'∧x.feeds.length=N∧qg6 g (P+120+2*i') w w.heap.size y x uF uL uA uN wr) (fun i _=>(k'-intOf i).toNat)
      case atStart=>exact⟨x,_,_,_,_,0,rfl,a_,HXN.out,HW7.out.mono a_⟩
      case round=>
       obtain⟨x,uF,uL,uA,uN,i',rfl,hik',hxn,hW⟩:=hrel;obtain⟨⟨A1,c1,rfl⟩,⟨A2,c2,rfl⟩,⟨A3,c3,rfl⟩,⟨A4,c4,rfl⟩⟩:=hW.s.sl;clear HW HXN HW7 HW6 HW5 hik hlt;have HW:=hI_ hW;have HXN:=hI_ hxn;clear hxn;by_cases hlt:(i':Int)<k'
       · have y0:=qaa hW.b;have hyl:=qai hW.b;clear hW;go_wp2_with fail
         go_region_with
          (first
            |(have hq8:=HW8.out.r;go_at_call 49;refine(qan g (P+120+2*i'+1) N _ hq8 hN0 hNm a_).mono ?_;rintro e w9 ⟨u,rfl,hu1,hu2,r9,o9⟩
              have HW9:=hI_ (HW8.out.only o9 r9);have v0:=qaa HW9.out.b;clear r9 o9 hq8)
            |(go_at_call 49;refine(qan g (P+120+2*i') N _ (HW.out.r.below i_) hN0 hNm a_).mono ?_;rintro e w8 ⟨t,rfl,ht1,ht2,r8,o8⟩
              have HW8:=hI_ (HW.out.only ((qbb.of_below i_).trans o8) r8);have t0:=qaa HW8.out.b;clear r8 o8)
            |(go_at_call 118;refine(qf2 x t u true _ _ _ _ w9 HW9.out.s (HW9.out.d.v.wi.sml a_)).mono ?_;rintro e wa ⟨vF',vL',vA',vN',rfl,hs9,hb9⟩
              obtain⟨x',HX'⟩:∃ x',Hid (qeh x t u true=x'):=⟨_,hI_ rfl⟩
              rw[HX'.out] at hs9;rw[HX'.out];obtain⟨⟨B1,d1,rfl⟩,⟨B2,d2,rfl⟩,⟨B3,d3,rfl⟩,⟨B4,d4,rfl⟩⟩:=hs9.sl;have HS9:=hI_ hs9;have HB9:=hI_ hb9;obtain⟨s0,s1,s2,s3,s4,s5,sf⟩:=qaa (HW9.out.below hb9).b;clear hs9 hb9 t0 y0 v0))
         all_goals
          go_wp2
          go_roundw
          case rel=>exact⟨x',_,_,_,_,i'+1,t_,a_,by rw[←HX'.out,qnZ];exact HXN.out,(HW9.out.put HB9.out HS9.out (by rw[←HX'.out];exact HW9.out.d.turn t u true)).mono a_⟩
          case measure=>simp[intOf];omega
       · have y0:=qaa hW.b;obtain⟨z0,z1,z2,z3,z4,z5,zf⟩:=qaa hW.z;have HRET:=hI_ (hW.mono (P':=P+200) a_).ret;clear hW;go_wp2_with fail
         refine bodyPost_ret (v:=.agg #[.int .i64 x.sec,.int .i64 x.bad,.slice A1 x.feeds.length c1,.slice A2 x.links.length c2,.slice A3 x.asked.length c3,.slice A4 x.net.length c4]) (by simp[results,Tryz.results62,go_sem,z0,z1,z2,z3,z4,z5]) rfl HRET.out
theorem qli{g j t:Nat}{w:World}(h:t/6≠j)(x0 x1 x2 x3 x4 x5:Value):
 ((((((w.setCell ⟨g,j*6,none⟩ x0).setCell ⟨g,j*6+1,none⟩ x1).setCell ⟨g,j*6+2,none⟩ x2).setCell ⟨g,j*6+3,none⟩ x3).setCell ⟨g,j*6+4,none⟩ x4).setCell ⟨g,j*6+5,none⟩ x5).cell? ⟨g,t,none⟩=w.cell? ⟨g,t,none⟩:=by
 have hne:∀ m,m<6→(⟨g,j*6+m,none⟩:Addr)≠⟨g,t,none⟩:=fun m hm e=>by injection e with _ e _;omega
 rw[World.cell?_setCell_other _ _ _ _ (hne 5 a_),World.cell?_setCell_other _ _ _ _ (hne 4 a_),World.cell?_setCell_other _ _ _ _ (hne 3 a_),World.cell?_setCell_other _ _ _ _ (hne 2 a_),World.cell?_setCell_other _ _ _ _ (hne 1 a_),World.cell?_setCell_other _ _ _ _ (show(⟨g,j*6,none⟩:Addr)≠⟨g,t,none⟩ from hne 0 a_)]
set_option linter.unusedSimpArgs false in
theorem qn6(x:Wd)(i j q o B C gF cF:Nat)(w:World)(hv:WV x)(hij:i≠j)(hi:i<x.feeds.length)(hj:j<x.feeds.length)(hL:qbk x i j=true)
 (t1:w.cell? ⟨q,o+1,none⟩=some (.int .i64 x.bad)) (t2:w.cell? ⟨q,o+2,none⟩=some (.slice (some ⟨gF,0,none⟩) x.feeds.length cF)) (hql:q<w.heap.size) (hqg:q≠gF)
 (hF:qa7 B C w (.slice (some ⟨gF,0,none⟩) x.feeds.length cF) x.feeds) (hC:C≤w.heap.size):
 Calls Tryz.prog 63 #[.pointer (some ⟨q,o,none⟩),.int .i64 (i:Int),.int .i64 (j:Int)] w (qk8 B gF cF (qa5 x i j).feeds w):=by
 have HF:=hI_ hF;have HC:=hI_ hC;have HT2:=hI_ t2;have hn6:x.feeds.length≤6:=hv.wi.n6;have hi1:(i:Int)<(x.feeds.length:Int):=a_;have hj1:(j:Int)<(x.feeds.length:Int):=a_;have hi0:(0:Int)≤(i:Int):=a_;have hj0:(0:Int)≤(j:Int):=a_;by_cases hbad:(i:Int)=x.bad
 · have hbb:((i:Int)==x.bad)=true:=by rw[beq_iff_eq];exact hbad
   have HR:Hid (qa5 x i j=x):=hI_ (by unfold qa5;rw[if_pos hbad]);clear hv hL hF hC hbad;go_enter Tryz.func63,Tryz.ntmps63
   go_wp2_with fail
   refine bodyPost_ret (results_none Tryz.results63 _ _ _) rfl ?_;rw[HR.out];exact⟨rfl,HF.out.mono (nr_ _) HC.out,qii _ _⟩
 have hbb:((i:Int)==x.bad)=false:=by rw[beq_eq_false_iff_ne];exact hbad
 have hgv:=qfR hv hi hj hL;have HGV:=hI_ hgv;have HWG:Hid (qa5 x i j=if ((qa0 x i j).feed i).hd.len=((qa0 x i j).feed j).hd.len then qby i j (qa0 x i j) ((qa0 x i j).feed i).hd.len.toNat else qa0 x i j):=hI_ (by unfold qa5;rw[if_neg hbad]);have HCALL:Hid (Calls Tryz.prog 142 #[.pointer (some ⟨q,o,none⟩),.int .i64 (i:Int),.int .i64 (j:Int)] w (qk8 B gF cF (qa0 x i j).feeds w)):=hI_ (qkB x i j q o B C gF cF w hv hi hj hL t2 hql hqg hF hC);obtain⟨x1,HX1⟩:=nm_ (qa0 x i j);rw[HX1.out] at HGV HWG HCALL;have hn:x1.feeds.length=x.feeds.length:=HGV.out.n;have HN:=hI_ hn;have hi':i<x1.feeds.length:=a_;have hj':j<x1.feeds.length:=a_;have HI':=hI_ hi';have HJ':=hI_ hj';have HFE:Hid (x1.feed i=x1.feeds[i]'hi'∧x1.feed j=x1.feeds[j]'hj'):=hI_ ⟨HGV.out.wv.wi.fd hi',HGV.out.wv.wi.fd hj'⟩;rw[HFE.out.1,HFE.out.2] at HWG;have hbg:q<w.heap.size→gF<w.heap.size:=fun _=>by obtain⟨_,F,h1,_⟩:=hF;exact(h1.lt gF rfl).2
 have hgl:=hbg hql;clear hv hL hF hC hbad hgv hn hbg;go_enter Tryz.func63,Tryz.ntmps63
 go_wp2_with fail
 refine HCALL.out.mono ?_;rintro e w1 ⟨rfl,hF1,hg1⟩;rw[HN.out] at hF1;have HF1:=hI_ hF1;have HG1:=hI_ hg1;have lq1:=nL_ hql hg1.size;have lg1:=nL_ hgl hg1.size;have hq1:w1.heap[q]? =w.heap[q]? :=hg1.block q hql (fun e=>by cases e;exact hqg rfl);have u1:=(World.cell?_of_block (a:=⟨q,o+1,none⟩) hq1).trans t1;have u2:=(World.cell?_of_block (a:=⟨q,o+2,none⟩) hq1).trans t2;have HU1:=hI_ u1;have HU2:=hI_ u2;clear t1 t2 hq1 hg1;obtain⟨_,_,va,ha,hA,_,f0,f1,f2,f3,f4,f5,hFi⟩:=hF1.r.at_ hi';cases hA;obtain⟨_,_,vb,hb',hA,_,g0,g1,g2,g3,g4,g5,hFj⟩:=hF1.r.at_ hj';cases hA;rw[Nat.zero_add] at f1 f4 f5 g1;obtain⟨fi,HFI⟩:=nm_ (x1.feeds[i]'hi');obtain⟨fj1,HFJ⟩:=nm_ (x1.feeds[j]'hj');rw[HFI.out] at f1 hFi HWG;rw[HFJ.out] at g1 HWG;have HFi:=hI_ hFi;have HF5:=hI_ f5;obtain⟨yA,yc,rfl⟩:=hFi.hv.sl';clear f0 f2 f3 f4 g0 g2 g3 g4 g5 hFi hFj hF1;have hup:=qap w1;obtain⟨r,HRR⟩:=nm_ ((fi.hd.len !=fj1.hd.len));go_wp2_with fail
 refine qoH ?_;repeat(go_big_quiet_step (fail))
 refine wpQuiet_nil ?_;intro w2 hw2;have hb2:=qay hw2;have HB2:=hI_ hb2;have lq2:=nL_ lq1 hb2.size;have lg2:=nL_ lg1 hb2.size;have HG2:Hid (w.grownBy w2 (some gF)):=hI_ (qat HG1.out (qaP hb2));have HF2:Hid (qa7 B w2.heap.size w2 (.slice (some ⟨gF,0,none⟩) x.feeds.length cF) x1.feeds):=hI_ ((HF1.out.below hb2).mono (nr_ _) hb2.size);have u1:=(hb2.cell (p:=⟨q,o+1,none⟩) lq1).trans HU1.out;have u2:=(hb2.cell (p:=⟨q,o+2,none⟩) lq1).trans HU2.out;have f5:=(hb2.cell (p:=⟨gF,i*6+5,none⟩) lg1).trans HF5.out;rw[HRR.out];clear hw2 hup HU1 HU2 hb2;cases r
 rotate_left
 · have HR:Hid (qa5 x i j=x1):=hI_ (by rw[HWG.out,if_neg];have:=HRR.out;simpa using this);go_wp2_with fail
   refine bodyPost_ret (results_none Tryz.results63 _ _ _) rfl ?_;rw[HR.out];refine⟨rfl,?_,HG2.out⟩;rw[HN.out];exact HF2.out
 have HLL:Hid (fi.hd.len=fj1.hd.len):=hI_ (by have:=HRR.out;simpa using this);have HR:Hid (qa5 x i j=qby i j x1 fi.hd.len.toNat):=hI_ (by rw[HWG.out,if_pos HLL.out]);have HFD:Hid (qgA x1.sec x1.f0 fi):=hI_ (by rw[←HFI.out];exact HGV.out.wv.fd i HI'.out);obtain⟨n,HLN⟩:∃ n:Nat,Hid (fi.hv.length=n∧fi.bl.length=n∧fi.hd.len=n∧n≤16):=by
  have:=qax HFD.out.v;exact⟨fi.hv.length,hI_ ⟨rfl,a_,a_,a_⟩⟩
 rw[HLN.out.2.2.1,Int.toNat_natCast] at HR;rw[HLN.out.1] at f5;have hn16:n≤16:=HLN.out.2.2.2;have HGT:Hid (∀ m,m≤n→Gv j x1 (qby i j x1 m)∧((qby i j x1 m).feeds.getD j Fd.none).hd=fj1.hd∧(qby i j x1 m).feeds.getD i Fd.none=fi):=hI_ (fun m hm=>by
  have e1:x1.feeds.getD i Fd.none=fi:=by rw[qam HI'.out];exact HFI.out
  have e2:x1.feeds.getD j Fd.none=fj1:=by rw[qam HJ'.out];exact HFJ.out
  obtain⟨k1,k2,_⟩:=qfP HGV.out.wv hij HI'.out HJ'.out (by rw[e1,e2];exact HLL.out) m (by rw[e1,HLN.out.2.2.1,Int.toNat_natCast];exact hm);exact⟨k1,by rw[k2,e2],by rw[k1.oth i hij,e1]⟩)
 go_wp2_with fail
 clear u1 u2;go_loopw [48] (fun s wr=>∃ k:Nat,k≤n∧s=.int .i64 k∧qa7 B wr.heap.size wr (.slice (some ⟨gF,0,none⟩) x.feeds.length cF) (qby i j x1 k).feeds∧w.grownBy wr (some gF)∧wr.cell? ⟨gF,i*6+5,none⟩=some (.slice yA n yc)) (fun s _=>n-(intOf s).toNat)
 case atStart=>exact⟨0,Nat.zero_le _,rfl,HF2.out,HG2.out,f5⟩
 case round=>
  obtain⟨k,hk,rfl,hFr,hgr,hf5⟩:=hrel;obtain⟨wk,rfl⟩:∃ W,W=wr:=⟨_,rfl⟩
  have HFr:=hI_ hFr;have HGR:=hI_ hgr;have HF5:=hI_ hf5;have lq:=nL_ hql hgr.size;have lg:=nL_ hgl hgr.size;have hqk:wk.heap[q]? =w.heap[q]? :=hgr.block q hql (fun e=>by cases e;exact hqg rfl);have u2:=(World.cell?_of_block (a:=⟨q,o+2,none⟩) hqk).trans HT2.out;obtain⟨y,HY⟩:=nm_ (qby i j x1 k);have hGT:=HGT.out k hk;rw[HY.out] at hGT HFr;have HGK:=hI_ hGT;have hny:y.feeds.length=x.feeds.length:=HGK.out.1.n.trans HN.out;have HNY:=hI_ hny;clear hqk hGT hgr hny hFr;by_cases hlt:k<n
  case neg=>
   obtain rfl:k=n:=a_;have hkk:¬ (k:Int)<(k:Int):=a_;clear hf5 u2;go_wp2_with fail
   refine bodyPost_end (results_none Tryz.results63 _ _ _) rfl ?_;rw[HR.out,HY.out];refine⟨rfl,?_,HGR.out⟩;rw[HNY.out];exact HFr.out
  have hiy:i<y.feeds.length:=by rw[HNY.out];exact hi
  have hjy:j<y.feeds.length:=by rw[HNY.out];exact hj
  have HJY:=hI_ hjy;have hki:(k:Int)<(n:Int):=a_;have hk0:(0:Int)≤(k:Int):=a_;obtain⟨_,_,va,ha,hA,_,f0,f1,f2,f3,f4,f5,hFi⟩:=HFr.out.r.at_ hiy;cases hA;obtain⟨_,_,vb,hb',hA,_,g0,g1,g2,g3,g4,g5,hFj⟩:=HFr.out.r.at_ hjy;cases hA;rw[Nat.zero_add] at f4 f5 g0 g1 g2 g3 g4 g5;have hyi:y.feeds[i]'hiy=fi:=by rw[←HGK.out.2.2,qam hiy]
  rw[hyi] at hFi;obtain rfl:ha=.slice yA n yc:=Option.some.inj (f5.symm.trans hf5);obtain⟨fj,HFJ2⟩:=nm_ (y.feeds[j]'hjy);rw[HFJ2.out] at g0 g1 g2 g3 hFj;have hjd:y.feeds.getD j Fd.none=fj:=by rw[qam hjy,HFJ2.out]
  have hid_:y.feeds.getD i Fd.none=fi:=HGK.out.2.2;have HWV:=hI_ HGK.out.1.wv;have HFDJ:Hid (qgA y.sec y.f0 fj):=hI_ (by rw[←HFJ2.out];exact HWV.out.fd j hjy);have HLJ:Hid (fj.hv.length=n∧fj.bl.length=n∧n≤y.f0.bl.length):=by
   have h1:=qax HFDJ.out.v;have h2:fj.hd=fj1.hd:=by rw[←hjd];exact HGK.out.2.1
   have h3:=HLL.out;have h4:=HLN.out.2.2.1;have h5:=HFDJ.out.le;have h6:=qax HWV.out.v0;rw[h2] at h1 h5;exact hI_ ⟨a_,a_,a_⟩
  have HG1:=hI_ (qhp (x:=y) (i:=i) (j:=j) (k:=k) HWV.out hiy hjy (by rw[hid_,HGK.out.2.1];exact HLL.out) (by rw[hid_,HLN.out.2.2.1,Int.toNat_natCast];exact hlt));have HSN:Hid (qby i j x1 (k+1)=qbW i j y k):=hI_ (by rw[qdB,HY.out]);have HIJ:Hid (y.feed i=fi∧y.feed j=fj):=hI_ ⟨by unfold Wd.feed;rw[Int.toNat_natCast,hid_],by unfold Wd.feed;rw[Int.toNat_natCast,hjd]⟩;have hkh:k<fi.hv.length:=by rw[HLN.out.1];exact hlt
  have hkb:k<fi.bl.length:=by rw[HLN.out.2.1];exact hlt
  have hkj:k<fj.hv.length:=by rw[HLJ.out.1];exact hlt
  have hkbi:(k:Int)<(fi.bl.length:Int):=a_;have hkji:(k:Int)<(fj.hv.length:Int):=a_;have hFih:RB wk (.slice yA n yc) fi.hv:=hFi.hv;obtain⟨b1,o1,hA1,hbs1,e1⟩:=R1.at_ hFih hkh;subst hA1;obtain⟨b2A,c2,rfl⟩:=hFi.bl.sl';obtain⟨b2,o2,hA2,hbs2,e2⟩:=R1.at_ hFi.bl hkb;subst hA2;obtain⟨b3A,c3,rfl⟩:=hFj.hv.sl';obtain⟨b3,o3,hA3,hbs3,e3⟩:=R1.at_ hFj.hv hkj;subst hA3;have HFj:=hI_ hFj;have HSZ:Hid (fi.bl[k].size≤8):=hI_ (qbH HFD.out.v _ (List.getElem_mem hkb));obtain⟨v1,HV1⟩:=nm_ (fi.hv[k]);obtain⟨v2,HV2⟩:=nm_ (fj.hv[k]);obtain⟨t,HT⟩:=nm_ (fi.bl[k]);rw[HV1.out] at e1;rw[HT.out] at e2 HSZ;rw[HV2.out] at e3;have HG4:Hid (v1=true→v2=false→qes fj k t (qaQ ((lvs y.f0.bl).take fi.bl.length) k)=(fj.put k t,true)):=hI_ (fun h1 h2=>by
   have:=(HG1.out.2.2.2 (by rw[hid_,qam hkh,HV1.out];exact h1) (by rw[hjd,qam hkj,HV2.out];exact h2)).2;rw[hjd,hid_,HLN.out.2.2.1,Int.toNat_natCast,qam hkb,HT.out,←HLN.out.2.1] at this;exact this)
  have HGO:Hid (qbW i j y k=if (v1&& !v2)=true then {y with feeds:=y.feeds.set j (qes fj k t (qaQ ((lvs y.f0.bl).take fi.bl.length) k)).1} else y):=hI_ (by
   unfold qbW;rw[HIJ.out.1,HIJ.out.2,qam hkh,qam hkj,HV1.out,HV2.out,qam hkb,HT.out,HLN.out.2.2.1,Int.toNat_natCast,Int.toNat_natCast,←HLN.out.2.1])
  clear f0 f1 f2 f3 f5 hf5 hFi hFj hFih hyi hjd hid_;cases v1
  · have HSAME:Hid (qby i j x1 (k+1)=y):=hI_ (by rw[HSN.out,HGO.out];rfl);go_wp2_with fail
    go_roundw
    case rel=>exact⟨k+1,a_,t_,by rw[HSAME.out];exact HFr.out,HGR.out,HF5.out⟩
    case measure=>simp[intOf];omega
  cases v2
  rotate_left
  · have HSAME:Hid (qby i j x1 (k+1)=y):=hI_ (by rw[HSN.out,HGO.out];rfl);go_wp2_with fail
    go_roundw
    case rel=>exact⟨k+1,a_,t_,by rw[HSAME.out];exact HFr.out,HGR.out,HF5.out⟩
    case measure=>simp[intOf];omega
  have hfp:=HG4.out rfl rfl;obtain⟨gf,HGF⟩:=nm_ (fj.put k t);rw[HGF.out] at hfp;have HNEW:Hid ((qby i j x1 (k+1)).feeds=y.feeds.set j gf):=hI_ (by rw[HSN.out,HGO.out,hfp];rfl);have HFP:=hI_ hfp;have HNB:Hid (fi.bl.length≤(y.feeds.getD 0 Fd.none).bl.length):=hI_ (by rw[HLN.out.2.1];exact HLJ.out.2.2);have hn0:0<y.feeds.length:=by rw[HNY.out];omega
  have HCL:Hid (∀ W,bB wk W→Calls Tryz.prog 145 #[.pointer (some ⟨q,o,none⟩),.int .i64 (fi.bl.length:Int)] W fun e w'=>∃ v',e=.returned v'∧O1 (Value.int .i64) W.heap.size 3 w' v' ((lvs y.f0.bl).take fi.bl.length)∧bB W w'):=
   hI_ fun W hW=>qj1 y.feeds fi.bl.length q o _ W ((hW.cell (p:=⟨q,o+2,none⟩) lq).trans u2) (HFr.out.r.below hW) hn0 HNB.out HWV.out.wi.len0.2.1 HWV.out.wi.txt
  clear hfp hn0;go_upto_region 7 with fail
  go_cut [8,9] (fun s8 s9 wx=>qop wk.heap.size wk wx gf true s8 s9)
  case first=>
   go_region_held3 (fun w'=>w'.cell? ⟨q,o+2,none⟩=some (.slice (some ⟨gF,0,none⟩) x.feeds.length cF)∧w'.cell? ⟨gF,j*6,none⟩=some (.int .i64 fj.pub)∧w'.cell? ⟨gF,j*6+1,none⟩=some (.int .i64 fj.hd.len)∧w'.cell? ⟨gF,j*6+2,none⟩=some (.int .i64 fj.hd.dg)∧w'.cell? ⟨gF,j*6+3,none⟩=some (.int .i64 fj.hd.sg)∧w'.cell? ⟨gF,j*6+4,none⟩=some (vb)∧w'.cell? ⟨gF,j*6+5,none⟩=some (.slice (some ⟨b3,o3,none⟩) fj.hv.length c3)∧w'.cell? ⟨gF,i*6+4,none⟩=some (.slice (some ⟨b2,o2,none⟩) fi.bl.length c2)∧w'.cell? ⟨b2,o2+k,none⟩=some (.string t))
    (with_reducible refine⟨Eq.trans (Below.cell (B:=wk.heap.size) ?_ lq) u2,Eq.trans (Below.cell (B:=wk.heap.size) ?_ lg) g0,Eq.trans (Below.cell (B:=wk.heap.size) ?_ lg) g1,Eq.trans (Below.cell (B:=wk.heap.size) ?_ lg) g2,Eq.trans (Below.cell (B:=wk.heap.size) ?_ lg) g3,Eq.trans (Below.cell (B:=wk.heap.size) ?_ lg) g4,Eq.trans (Below.cell (B:=wk.heap.size) ?_ lg) g5,Eq.trans (Below.cell (B:=wk.heap.size) ?_ lg) f4,Eq.trans (Below.cell (B:=wk.heap.size) ?_ hbs2) e2⟩ <;> (repeat(first|with_reducible exact bR_ _ _|with_reducible exact hb04|with_reducible exact hb05|with_reducible exact hb06|with_reducible refine qab ?_ _|with_reducible refine qac ?_|(with_reducible refine qae ?_ ?_ _ _ _ _ _ _;rotate_left;(first|exact nr_ _|omega|(simp;done)|(simp;omega)))));done)
    (first
      |(go_at_call 145;refine(HCL.out _ m_).mono ?_;rintro e w4 ⟨v4,rfl,ho4,hb4⟩;have hb04:bB wk w4:=qb6 m_ hb4;have hs04:=hb04.size)
      |(go_at_call 144;refine(qfE _ (k:Int) _ _ (ho4.r1.below i_)).mono ?_;rintro e w5 ⟨v5,rfl,ho5,hb5⟩;have hb05:bB wk w5:=qb6 m_ hb5;have hs05:=hb05.size)
      |(go_at_call 143;refine(qkj HFP _ _ _ _ (HFj.out.below' m_) (Nat.le_trans HSZ.out s_) (ho5.r1.below i_)).mono ?_;rintro e w6 ⟨ub,uh,rfl,ho6,hb6⟩
        obtain⟨uA,uc,rfl⟩:=ho6.bl.sl;obtain⟨hA,hc,rfl⟩:=ho6.hv.sl;have hb06:bB wk w6:=qb6 m_ hb6;have hs4:=hb4.size;have hs5:=hb5.size;have hs6:=hb6.size;have hs06:=hb06.size;try(first
          |(have hz6:=(hb6.block _ (qaB w5 _)).trans (heap_alloc_new w5 _);obtain⟨k0,k1,k2,k3,k4,k5,kf⟩:=qaa hz6)
          |(have hz6:=(hb6.block _ (nL_ (qaB w4 _) hs5)).trans ((hb5.block _ (qaB w4 _)).trans (heap_alloc_new w4 _));obtain⟨k0,k1,k2,k3,k4,k5,kf⟩:=qaa hz6)
          |(have hz6:=(hb6.block _ (nL_ (nL_ (qaB wk _) hs4) hs5)).trans ((hb5.block _ (nL_ (qaB wk _) hs4)).trans ((hb4.block _ (qaB wk _)).trans (heap_alloc_new wk _)));obtain⟨k0,k1,k2,k3,k4,k5,kf⟩:=qaa hz6))))
   all_goals
    go_wp2
    go_meet
   · exact qnl ho6 a_ hb06 hs06
   · exact qgZ ho6 (qaB _ _) hb06 hz6 hs05
   · exact qgZ ho6 (nL_ (qaB _ _) hs5) hb06 hz6 hs04
   · exact qgZ ho6 (nL_ (nL_ (qaB _ _) hs4) hs5) hb06 hz6 (nr_ _)
  case rest=>
   obtain⟨y8,vb8,vh8,rfl,rfl,hfb,hb8,hy8⟩:=hcut;obtain⟨Wx,rfl⟩:∃ W,W=wc:=⟨_,rfl⟩
   have HFX:=HFr.out.below hb8;have hs8:=hb8.size;have w2:=(hb8.cell (p:=⟨q,o+2,none⟩) lq).trans u2;have w5:=(hb8.cell (p:=⟨gF,i*6+5,none⟩) lg).trans HF5.out;obtain⟨vA,vc,rfl⟩:=hfb.fo.bl.sl;obtain⟨uA,uc,rfl⟩:=hfb.fo.hv.sl;have d2:Wx.drew.cell? ⟨q,o+2,none⟩=_:=w2;have e0:Wx.drew.cell? ⟨y8,0,none⟩=_:=hfb.c0;have e1:Wx.drew.cell? ⟨y8,1,none⟩=_:=hfb.c1;have e2:Wx.drew.cell? ⟨y8,2,none⟩=_:=hfb.c2;have e3:Wx.drew.cell? ⟨y8,3,none⟩=_:=hfb.c3;have e4:Wx.drew.cell? ⟨y8,4,none⟩=_:=hfb.c4;have e5:Wx.drew.cell? ⟨y8,5,none⟩=_:=hfb.c5;obtain⟨h1,h2⟩:=HFX.put HJY.out hfb.fo (nr_ _);have h5:=(qli (g:=gF) (j:=j) (t:=i*6+5) (w:=Wx) a_ (.int .i64 gf.pub) (.int .i64 gf.hd.len) (.int .i64 gf.hd.dg) (.int .i64 gf.hd.sg) (.slice vA gf.bl.length vc) (.slice uA gf.hv.length uc)).trans w5;obtain⟨W18,HW18⟩:=nm_ (((((((Wx.setCell ⟨gF,j*6,none⟩ (.int .i64 gf.pub)).setCell ⟨gF,j*6+1,none⟩ (.int .i64 gf.hd.len)).setCell ⟨gF,j*6+2,none⟩ (.int .i64 gf.hd.dg)).setCell ⟨gF,j*6+3,none⟩ (.int .i64 gf.hd.sg)).setCell ⟨gF,j*6+4,none⟩ (.slice vA gf.bl.length vc)).setCell ⟨gF,j*6+5,none⟩ (.slice uA gf.hv.length uc)));rw[HW18.out] at h1 h2 h5;have HP5:=hI_ h5;have HP1:=hI_ h1;have HP2:=hI_ (qat (qat HGR.out (qaP hb8)) h2);have HP3:=hI_ h2;obtain⟨⟨F,hF⟩,hFf⟩:=HFX.cells;have s0:=hF (j*6) (by have:=HJY.out;omega);have s1:=hF (j*6+1) (by have:=HJY.out;omega);have s2:=hF (j*6+2) (by have:=HJY.out;omega);have s3:=hF (j*6+3) (by have:=HJY.out;omega);have s4:=hF (j*6+4) (by have:=HJY.out;omega);have s5:=hF (j*6+5) (by have:=HJY.out;omega);have n1:gF≠y8:=a_;have n2:y8≠gF:=a_;clear hfb hb8 HFX h1 h2 h5 hF u2 f4 g0 g1 g2 g3 g4 g5 w5;go_wp2_with fail
   refine qci (fun w'=>w'.cell? ⟨q,o+2,none⟩=some (.slice (some ⟨gF,0,none⟩) x.feeds.length cF)∧w'.cell? ⟨y8,0,none⟩=some (.int .i64 gf.pub)∧w'.cell? ⟨y8,1,none⟩=some (.int .i64 gf.hd.len)∧w'.cell? ⟨y8,2,none⟩=some (.int .i64 gf.hd.dg)∧w'.cell? ⟨y8,3,none⟩=some (.int .i64 gf.hd.sg)∧w'.cell? ⟨y8,4,none⟩=some (.slice vA gf.bl.length vc)∧w'.cell? ⟨y8,5,none⟩=some (.slice uA gf.hv.length uc)) 7 d_ ⟨d2,e0,e1,e2,e3,e4,e5⟩ (fun hS hT=> ?_);refine gT_ ?_ hT hS;clear hT;refine tT_ 0 ?_;refine tT_ 1 ?_;refine tT_ 2 ?_;refine tT_ 3 ?_;refine tT_ 4 ?_;refine tT_ 5 ?_;refine tT_ 6 ?_;refine eT_ fun hT=>?_;refine qch rfl d_ d_ (fun K7 hK7=> ?_);go_simp;rw[HW18.out];refine hK7.out _ _ ?_;go_wp2_with fail
   go_roundw
   case rel=>
    refine⟨k+1,a_,t_,?_,qat HP2.out (qaP (qac (bR_ _ _))),HP5.out⟩;rw[HNEW.out];exact(HP1.out.below (qac (bR_ _ _))).mono (nr_ _) HP3.out.size
   case measure=>simp[intOf];omega
end Go.Proofs.YtekaaekpdebloaaGreatDoor

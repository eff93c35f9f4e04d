/- Words and walks of the law. -/
import Derived.Test.YtekaaekpdebloaaGreatDoorCH5
set_option linter.unusedVariables false
set_option linter.unusedSimpArgs false
set_option maxHeartbeats 12800000
set_option maxRecDepth 100000
namespace Go.Proofs.YtekaaekpdebloaaGreatDoor
open Go.RowKit

section
variable {α:Type} {enc:α→Value} {w w':World} {v:Value} {l:List α}

end

section
variable {α:Type} {e1 e2:α→Value} {w w':World} {v:Value} {l:List α}
theorem R2.alloc(h:R2 e1 e2 w v l)(o:Obj):R2 e1 e2 (w.alloc o) v l:=h.below ((bR_ _ _).alloc (nr_ _) o)
end

theorem qhF(l:List Int)(va vb:Value)(w:World)(ha:R1 (Value.int .i64) w va l)(hb:R1 (Value.int .i64) w vb l):
 gV 26 #[va,vb] w (.bool true):=by
 have HA:=hI_ ha;have HB:=hI_ hb;have hm:=ha.len;obtain⟨A,c,rfl,h1,h2,h3⟩:=ha;obtain⟨A2,c2,rfl,q1,q2,q3⟩:=hb;unfold maxLen at hm;clear h3 q3 h1 q1 h2 q2;have hnn:((l.length:Int)!=(l.length:Int))=false:=k_;go_enter Tryz.func26,Tryz.ntmps26
 go_wp2
 go_loopw [5] (fun i wr=>∃ k:Nat,k≤l.length∧i=.int .i64 k∧bB w wr) (fun i _=>l.length-(intOf i).toNat)
 case atStart=>exact⟨0,Nat.zero_le _,rfl,bR_ _ _⟩
 case round=>
  obtain⟨k,hk,rfl,hbw⟩:=hrel;by_cases hlt:k<l.length
  · obtain⟨_,_,hA,_,_,hc⟩:=HA.out.below hbw;cases hA;obtain⟨b,o,rfl,hbs,hc⟩:=hc a_;have e1:=hc k hlt;obtain⟨_,_,hA,_,_,hc2⟩:=HB.out.below hbw;cases hA;obtain⟨b',o',rfl,hbs',hc2⟩:=hc2 a_;have e2:=hc2 k hlt;clear hc hc2;generalize l[k]=x at*
    have hup:=qap wr;have hki:(k:Int)<(l.length:Int):=a_;have hk0:(0:Int)≤(k:Int):=a_;go_wp2
    refine qoH ?_;repeat(go_big_quiet_step (fail))
    refine wq_ fun w1 hb1=>?_;clear hup;go_wp2
    go_roundw
    case rel=>exact⟨k+1,a_,t_,hbw.trans (hb1.mono hbw.size)⟩
    case measure=>simp[intOf];omega
  · go_wp2
    go_ret;exact⟨rfl,hbw⟩

theorem qgy(l:List ByteArray)(va vb:Value)(w:World)(ha:R1 (Value.string) w va l)(hb:R1 (Value.string) w vb l):
 gV 64 #[va,vb] w (.bool true):=by
 have HA:=hI_ ha;have HB:=hI_ hb;have hm:=ha.len;obtain⟨A,c,rfl,h1,h2,h3⟩:=ha;obtain⟨A2,c2,rfl,q1,q2,q3⟩:=hb;unfold maxLen at hm;clear h3 q3 h1 q1 h2 q2;have hnn:((l.length:Int)!=(l.length:Int))=false:=k_;go_enter Tryz.func64,Tryz.ntmps64
 go_wp2
 go_loopw [5] (fun i wr=>∃ k:Nat,k≤l.length∧i=.int .i64 k∧bB w wr) (fun i _=>l.length-(intOf i).toNat)
 case atStart=>exact⟨0,Nat.zero_le _,rfl,bR_ _ _⟩
 case round=>
  obtain⟨k,hk,rfl,hbw⟩:=hrel;by_cases hlt:k<l.length
  · obtain⟨_,_,hA,_,_,hc⟩:=HA.out.below hbw;cases hA;obtain⟨b,o,rfl,hbs,hc⟩:=hc a_;have e1:=hc k hlt;obtain⟨_,_,hA,_,_,hc2⟩:=HB.out.below hbw;cases hA;obtain⟨b',o',rfl,hbs',hc2⟩:=hc2 a_;have e2:=hc2 k hlt;clear hc hc2;generalize l[k]=x at*
    have hup:=qap wr;have hki:(k:Int)<(l.length:Int):=a_;have hk0:(0:Int)≤(k:Int):=a_;go_wp2
    refine qoH ?_;repeat(go_big_quiet_step (fail))
    refine wq_ fun w1 hb1=>?_;clear hup;go_wp2
    go_roundw
    case rel=>exact⟨k+1,a_,t_,hbw.trans (hb1.mono hbw.size)⟩
    case measure=>simp[intOf];omega
  · go_wp2
    go_ret;exact⟨rfl,hbw⟩

theorem qgx(l:List Bool)(va vb:Value)(w:World)(ha:R1 (Value.bool) w va l)(hb:R1 (Value.bool) w vb l):
 gV 65 #[va,vb] w (.bool true):=by
 have HA:=hI_ ha;have HB:=hI_ hb;have hm:=ha.len;obtain⟨A,c,rfl,h1,h2,h3⟩:=ha;obtain⟨A2,c2,rfl,q1,q2,q3⟩:=hb;unfold maxLen at hm;clear h3 q3 h1 q1 h2 q2;have hnn:((l.length:Int)!=(l.length:Int))=false:=k_;go_enter Tryz.func65,Tryz.ntmps65
 go_wp2
 go_loopw [5] (fun i wr=>∃ k:Nat,k≤l.length∧i=.int .i64 k∧bB w wr) (fun i _=>l.length-(intOf i).toNat)
 case atStart=>exact⟨0,Nat.zero_le _,rfl,bR_ _ _⟩
 case round=>
  obtain⟨k,hk,rfl,hbw⟩:=hrel;by_cases hlt:k<l.length
  · obtain⟨_,_,hA,_,_,hc⟩:=HA.out.below hbw;cases hA;obtain⟨b,o,rfl,hbs,hc⟩:=hc a_;have e1:=hc k hlt;obtain⟨_,_,hA,_,_,hc2⟩:=HB.out.below hbw;cases hA;obtain⟨b',o',rfl,hbs',hc2⟩:=hc2 a_;have e2:=hc2 k hlt;clear hc hc2;generalize l[k]=x at*
    have hup:=qap wr;have hki:(k:Int)<(l.length:Int):=a_;have hk0:(0:Int)≤(k:Int):=a_;go_wp2
    refine qoH ?_;repeat(go_big_quiet_step (fail))
    refine wq_ fun w1 hb1=>?_;clear hup;go_wp2
    go_roundw
    case rel=>exact⟨k+1,a_,t_,hbw.trans (hb1.mono hbw.size)⟩
    case measure=>simp[intOf];omega
  · go_wp2
    go_ret;exact⟨rfl,hbw⟩

theorem qeR(f:Fd)(va vb ua ub:Value)(w:World)(ha:qaU w f va vb)(hb:qaU w f ua ub):
 gV 29 #[.agg #[.int .i64 f.pub,.int .i64 f.hd.len,.int .i64 f.hd.dg,.int .i64 f.hd.sg,va,vb],.agg #[.int .i64 f.pub,.int .i64 f.hd.len,.int .i64 f.hd.dg,.int .i64 f.hd.sg,ua,ub]] w (.bool true):=by
 have HA:=hI_ ((ha.alloc (.cells #[.int .i64 f.pub,.int .i64 f.hd.len,.int .i64 f.hd.dg,.int .i64 f.hd.sg,va,vb] 50)).alloc (.cells #[.int .i64 f.pub,.int .i64 f.hd.len,.int .i64 f.hd.dg,.int .i64 f.hd.sg,ua,ub] 50));have HB:=hI_ ((hb.alloc (.cells #[.int .i64 f.pub,.int .i64 f.hd.len,.int .i64 f.hd.dg,.int .i64 f.hd.sg,va,vb] 50)).alloc (.cells #[.int .i64 f.pub,.int .i64 f.hd.len,.int .i64 f.hd.dg,.int .i64 f.hd.sg,ua,ub] 50));have hpp:(f.pub==f.pub)=true:=k_;go_enter Tryz.func29,Tryz.ntmps29
 go_wp2_with (first
  |(go_at_call 64;refine(qgy f.bl _ _ _ HA.out.bl HB.out.bl).mono ?_;rintro e w2 ⟨rfl,hb2⟩;have hcc2:=qeY hb2)
  |(go_at_call 65;refine(qgx f.hv _ _ _ (HA.out.below hb2).hv (HB.out.below hb2).hv).mono ?_;rintro e w3 ⟨rfl,hb3⟩;have hb13:=qa3 hb2 hb3))
 go_ret;exact⟨rfl,(((bR_ _ _).alloc (nr_ _) _).alloc k_ _).trans (hb13.mono n_)⟩
def qqx{α:Type}(enc:α→Value)(e:TypeId)(g:Nat)(w:World)(l:List α)(k:Nat):Prop:=
 ∃ cur:Array Value,w.heap[g]? =some (.cells cur e (0,0))∧cur.size=l.length∧∀ j (hj:j<l.length),j<k→cur[j]? =some (enc l[j])
theorem qqx.cell{α:Type}{enc:α→Value}{e:TypeId}{g:Nat}{w:World}{l:List α}{k:Nat}(h:qqx enc e g w l k){j:Nat}(hj:j<l.length):(∃ u,w.cell? ⟨g,j,none⟩=some u)∧w.frozen? ⟨g,j,none⟩=false:=by
 obtain⟨cur,h1,h2,h3⟩:=h;exact⟨⟨cur[j]'(by omega),by rw[cell_of_row w g j cur e (0,0) h1];simp[h2,hj]⟩,by simp[World.frozen?,h1]⟩
def qms(g P:Nat)(n:Int)(w:World)(e:Ending)(w':World):Prop:=
 ∃ x:Int,e=.returned (.int .i64 x)∧0≤x∧x<n∧Rdr w' g (P+1)∧qbb g w w'

theorem qmS{w w':World}{g P p c:Nat}{bs:List UInt8}{A:Option Addr}(h:w.heap[g]? =some (.cells #[.slice A bs.length c,.int .i64 p] 133 (0,0)))(hp:p≤P)(h3:bs.length≤2000)(h4:bs.length≤c)
 (h5:0<bs.length→∃ b o,A=some ⟨b,o,none⟩∧b<g∧∀ j (hj:j<bs.length),w.cell? ⟨b,o+j,none⟩=some (.int .u8 (bs[j].toNat:Int)))
 (hw:∃ n,w'=(w.setCell ⟨g,1,none⟩ (.int .i64 ((p:Int)+1))).drewN n):Rdr w' g (P+1)∧qbb g w w':=by
 obtain⟨n,rfl⟩:=hw;have ho:∀ k,k≠g→((w.setCell ⟨g,1,none⟩ (.int .i64 ((p:Int)+1))).drewN n).heap[k]? =w.heap[k]? :=fun k hk=>Below.heap_setCell w ⟨g,1,none⟩ _ k hk;refine⟨⟨bs,A,c,p+1,?_,a_,h3,h4,fun hl=> ?_⟩,⟨rfl,rfl,rfl,by simp[World.setCell,World.drewN],fun k _ hne=>ho k (fun e=>hne (by rw[e]))⟩⟩
 · show(w.setCell ⟨g,1,none⟩ (.int .i64 ((p:Int)+1))).heap[g]? =_;simp only[World.setCell,Array.getElem?_modify,h,if_true,Option.map_some];simp
 · obtain⟨b,o,hA,hb,hc⟩:=h5 hl;exact⟨b,o,hA,hb,fun j hj=>(World.cell?_of_block (ho b a_)).trans (hc j hj)⟩

theorem qj7(X:Nat)(n:Int)(hX:X<1000000000000)(hn:1≤n):0≤(bits .xor .i64 (X:Int) ((X:Int)/64)).tmod n∧(bits .xor .i64 (X:Int) ((X:Int)/64)).tmod n<n:=by
 have e:bits .xor .i64 (X:Int) ((X:Int)/64)=((X ^^^ (X/64):Nat):Int):=by
  have hx:X ^^^ (X/64)<2 ^ 40:=Nat.xor_lt_two_pow a_ a_;rw[show(X:Int)/64=((X/64:Nat):Int) by omega];show IntKind.i64.wrap ((BitVec.ofInt 64 (X:Int) ^^^ BitVec.ofInt 64 ((X/64:Nat):Int)).toNat:Int)=_;rw[BitVec.toNat_xor,qdq X a_,qdq (X/64) a_,IntKind.wrap_i64];omega
 rw[e,Int.tmod_eq_emod_of_nonneg (Int.natCast_nonneg _)];exact⟨Int.emod_nonneg _ a_,Int.emod_lt_of_pos _ a_⟩

theorem qan(g P:Nat)(n:Int)(w:World)(hr:Rdr w g P)(hn1:1≤n)(hn2:n≤1000000)(hP:P≤1000000000):
 Calls Tryz.prog 49 #[.pointer (some ⟨g,0,none⟩),.int .i64 n] w (qms g P n w):=by
 obtain⟨bs,A,c,p,h1,h2,h3,h4,h5⟩:=hr;have k0:w.cell? ⟨g,0,none⟩=some (.slice A bs.length c):=cell_of_row w g 0 _ _ _ h1;have k1:w.cell? ⟨g,1,none⟩=some (.int .i64 p):=cell_of_row w g 1 _ _ _ h1;have kf:w.frozen? ⟨g,1,none⟩=false:=by simp[World.frozen?,h1]
 have HK:=hI_ (fun(w':World)=>qmS (w':=w') h1 h2 h3 h4 h5);have m0:(w.setCell ⟨g,1,none⟩ (.int .i64 ((p:Int)+1))).cell? ⟨g,0,none⟩=some (.slice A bs.length c):=by
  rw[World.cell?_setCell_other _ _ _ _ k_];exact k0
 have m1:(w.setCell ⟨g,1,none⟩ (.int .i64 ((p:Int)+1))).cell? ⟨g,1,none⟩=some (.int .i64 ((p:Int)+1)):=by
  simp[World.cell?,World.setCell,Array.getElem?_modify,h1]
 have H5:=hI_ h5;have H1:=hI_ h1;clear h1 h5;by_cases hz:bs.length=0
 · have hz':((bs.length:Int)==0)=true:=by simp[hz]
   clear hz;go_enter Tryz.func49,Tryz.ntmps49
   go_wp2
   go_ret;obtain⟨r1,r2⟩:=HK.out (w.setCell ⟨g,1,none⟩ (.int .i64 ((p:Int)+1))) ⟨0,rfl⟩;exact⟨0,rfl,a_,a_,r1,r2⟩
 · have hz':((bs.length:Int)==0)=false:=by rw[beq_eq_false_iff_ne];omega
   obtain⟨b,o,rfl,hbg,hc⟩:=H5.out a_;by_cases hlt:p<bs.length
   · have hlt':(p:Int)<(bs.length:Int):=a_;have hcell:(w.setCell ⟨g,1,none⟩ (.int .i64 ((p:Int)+1))).cell? ⟨b,o+p,none⟩=some (.int .u8 (bs[p].toNat:Int)):=by
      rw[World.cell?_setCell_other _ _ _ _ (by intro e;injection e with e1;omega)];exact hc p hlt
     have hb8:(bs[p].toNat:Int)<256:=by have:=bs[p].toNat_lt;omega
     clear hc;generalize bs[p].toNat=y at*
     have hy1:0≤(y:Int)%n:=Int.emod_nonneg _ a_;have hy2:(y:Int)%n<n:=Int.emod_lt_of_pos _ a_;go_enter Tryz.func49,Tryz.ntmps49
     go_wp2
     go_ret;obtain⟨r1,r2⟩:=HK.out (w.setCell ⟨g,1,none⟩ (.int .i64 ((p:Int)+1))) ⟨0,rfl⟩;exact⟨(y:Int)%n,rfl,hy1,hy2,r1,r2⟩
   · have hlt':¬ (p:Int)<(bs.length:Int):=a_;have hl1:p%bs.length<bs.length:=Nat.mod_lt _ a_;have hl2:(p*7+3)%bs.length<bs.length:=Nat.mod_lt _ a_;have c1:(w.setCell ⟨g,1,none⟩ (.int .i64 ((p:Int)+1))).cell? ⟨b,o+p%bs.length,none⟩=some (.int .u8 (bs[p%bs.length].toNat:Int)):=by
      rw[World.cell?_setCell_other _ _ _ _ (by intro e;injection e with e1;omega)];exact hc _ hl1
     have c2:(w.setCell ⟨g,1,none⟩ (.int .i64 ((p:Int)+1))).cell? ⟨b,o+(p*7+3)%bs.length,none⟩=some (.int .u8 (bs[(p*7+3)%bs.length].toNat:Int)):=by
      rw[World.cell?_setCell_other _ _ _ _ (by intro e;injection e with e1;omega)];exact hc _ hl2
     have b1:(bs[p%bs.length].toNat:Int)<256:=by have:=bs[p%bs.length].toNat_lt;omega
     have b2:(bs[(p*7+3)%bs.length].toNat:Int)<256:=by have:=bs[(p*7+3)%bs.length].toNat_lt;omega
     have e1:(p:Int)%(bs.length:Int)=((p%bs.length:Nat):Int):=k_;have e2:((p:Int)*7+3)%(bs.length:Int)=(((p*7+3)%bs.length:Nat):Int):=k_;have e3:(p:Int)/(bs.length:Int)=((p/bs.length:Nat):Int):=k_;have b3:p/bs.length≤p:=Nat.div_le_self _ _;clear hc;generalize bs[p%bs.length].toNat=y1 at*
     generalize bs[(p*7+3)%bs.length].toNat=y2 at*
     generalize p%bs.length=q1 at*
     generalize(p*7+3)%bs.length=q2 at*
     generalize p/bs.length=q3 at*
     have hX:(y1:Int)*131+(y2:Int)*1117+(p:Int)*29+(q3:Int)*53=((y1*131+y2*1117+p*29+q3*53:Nat):Int):=a_;have hXb:y1*131+y2*1117+p*29+q3*53<1000000000000:=a_;generalize y1*131+y2*1117+p*29+q3*53=X at*
     have hb0:b<w.heap.size:=by
      have:=(Array.getElem?_eq_some_iff.1 H1.out).1;omega
     have hg0:g<w.heap.size:=(Array.getElem?_eq_some_iff.1 H1.out).1;have HX:=hI_ hX;clear hX;go_enter Tryz.func49,Tryz.ntmps49
     go_wp2
     generalize hW:w.setCell ⟨g,1,none⟩ (.int .i64 ((p:Int)+1))=W at*
     have HW:=hI_ hW;clear hW;go_quiet (fail)
     go_wp2
     go_ret;obtain⟨r1,r2⟩:=HK.out (W.drewN nq) ⟨nq,rfl⟩;refine⟨_,rfl,?_,?_,r1,r2⟩
     · rw[HX.out];exact(qj7 X n hXb hn1).1
     · rw[HX.out];exact(qj7 X n hXb hn1).2
abbrev RU:=R1 (fun b:UInt8=>Value.int .u8 (b.toNat:Int))
def qmr(w:World)(e:Ending)(w':World):Prop:=∃ g,e=.returned (.pointer (some ⟨g,0,none⟩))∧w.heap.size≤g∧Rdr w' g 0∧bB w w'
theorem qkM(bs:List UInt8)(v:Value)(w:World)(hv:RU w v bs):Calls Tryz.prog 46 #[v] w (qmr w):=by
 have HV:=hI_ hv;obtain⟨A,c,rfl,h1,h2,h3⟩:=hv;unfold maxLen at h2;by_cases hl:2000<bs.length
 · obtain⟨b,o,rfl,hb,hc⟩:=h3 a_;have HC:=hI_ hc;clear hc h3;have hl':(2000:Int)<(bs.length:Int):=a_;have hcc:(2000:Int)≤(c:Int):=a_;go_enter Tryz.func46,Tryz.ntmps46
   go_wp2
   go_ret;refine⟨w.heap.size,rfl,nr_ _,⟨bs.take 2000,some ⟨b,o,none⟩,c,0,?_,nr_ _,n_,n_,fun _=>⟨b,o,rfl,hb,fun j hj=> ?_⟩⟩,(bR_ _ _).alloc (nr_ _) _⟩
   · rw[heap_alloc_new];simp[Nat.min_eq_left (Nat.le_of_lt hl)]
   · have hj2:j<bs.length:=by simp at hj;omega
     rw[((bR_ w.heap.size w).alloc (nr_ _) _).cell (p:=⟨b,o+j,none⟩) hb,HC.out j hj2];simp
 · have hl':¬ (2000:Int)<(bs.length:Int):=a_;have H3:=hI_ h3;clear h3;go_enter Tryz.func46,Tryz.ntmps46
   go_wp2
   go_ret;refine⟨w.heap.size,rfl,nr_ _,⟨bs,A,c,0,?_,nr_ _,a_,h1.1,fun hp=> ?_⟩,(bR_ _ _).alloc (nr_ _) _⟩
   · rw[heap_alloc_new];rfl
   · obtain⟨b,o,hA,hb,hc⟩:=H3.out hp;exact⟨b,o,hA,hb,fun j hj=>(((bR_ w.heap.size w).alloc (nr_ _) _).cell (p:=⟨b,o+j,none⟩) hb).trans (hc j hj)⟩

def qi3(lo hi:Int)(g P:Nat)(w:World)(e:Ending)(w':World):Prop:=
 ∃ x:Int,e=.returned (.int .i64 x)∧lo≤x∧x≤hi∧Rdr w' g P∧qbb g w w'
theorem qjz(g P:Nat)(w:World)(hr:Rdr w g P)(hP:P≤1000000):Calls Tryz.prog 141 #[.pointer (some ⟨g,0,none⟩)] w (qi3 1 986 g (P+2) w):=by
 go_enter Tryz.func141,Tryz.ntmps141
 go_wp2_with fail
 refine(qan g P 99 _ hr a_ a_ a_).mono ?_;rintro e w1 ⟨x,rfl,x1,x2,r1,o1⟩;go_wp2_with fail
 refine(qan g (P+1) 6 _ r1 a_ a_ a_).mono ?_;rintro e w2 ⟨y,rfl,y1,y2,r2,o2⟩;go_wp2
 go_ret;exact⟨_,rfl,a_,a_,r2,o1.trans o2⟩

theorem qhw(g P:Nat)(w:World)(hr:Rdr w g P)(hP:P≤1000000):Calls Tryz.prog 176 #[.pointer (some ⟨g,0,none⟩)] w (qi3 (-1) 991 g (P+3) w):=by
 have hgl:=hr.lt;go_enter Tryz.func176,Tryz.ntmps176
 go_wp2_with fail
 refine(qan g P 20 _ hr a_ a_ a_).mono ?_;rintro e w1 ⟨x,rfl,x1,x2,r1,o1⟩;by_cases hx:x=0
 · subst hx;have r1a:Rdr (w1.alloc (.cells #[.int .i64 (-1),.int .i64 0,.int .i64 990,.int .i64 991] 3)) g (P+1):=r1.below ((bR_ _ _).alloc (nr_ _) _);have hgl1:=r1.lt;go_wp2_with fail
   refine(qan g (P+1) 4 _ r1a a_ a_ a_).mono ?_;rintro e w2 ⟨y,rfl,y1,y2,r2,o2⟩;have hb2:=o2.block w1.heap.size k_ (fun e=>by have:w1.heap.size=g:=Option.some.inj e;omega);rw[heap_alloc_new] at hb2;have k0:=cell_of_row w2 w1.heap.size 0 _ _ _ hb2;have k1:=cell_of_row w2 w1.heap.size 1 _ _ _ hb2;have k2:=cell_of_row w2 w1.heap.size 2 _ _ _ hb2;have k3:=cell_of_row w2 w1.heap.size 3 _ _ _ hb2;have H02:Hid (qbb g w w2):=hI_ (o1.trans ((qbb.of_below ((bR_ _ _).alloc (nr_ _) _)).trans o2));clear hb2;have hy:y=0∨y=1∨y=2∨y=3:=a_;rcases hy with rfl|rfl|rfl|rfl <;>
   · go_wp2
     go_ret;exact⟨_,rfl,a_,a_,r2.mono a_,H02.out⟩
 · have hx':(x==0)=false:=by rw[beq_eq_false_iff_ne];exact hx
   go_wp2_with fail
   refine(qan g (P+1) 99 _ r1 a_ a_ a_).mono ?_;rintro e w2 ⟨y,rfl,y1,y2,r2,o2⟩;go_wp2_with fail
   refine(qan g (P+2) 10 _ r2 a_ a_ a_).mono ?_;rintro e w3 ⟨z,rfl,z1,z2,r3,o3⟩;go_wp2
   go_ret;exact⟨_,rfl,a_,a_,r3,(o1.trans o2).trans o3⟩

theorem qeN(g P:Nat)(w:World)(hr:Rdr w g P)(hP:P≤1000000):Calls Tryz.prog 98 #[.pointer (some ⟨g,0,none⟩)] w (qi3 (-1) 997 g (P+3) w):=by
 have hgl:=hr.lt;go_enter Tryz.func98,Tryz.ntmps98
 go_wp2_with fail
 refine(qan g P 20 _ hr a_ a_ a_).mono ?_;rintro e w1 ⟨x,rfl,x1,x2,r1,o1⟩;by_cases hx:x=0
 · subst hx;have r1a:Rdr (w1.alloc (.cells #[.int .i64 0,.int .i64 996,.int .i64 997,.int .i64 (-1)] 3)) g (P+1):=r1.below ((bR_ _ _).alloc (nr_ _) _);have hgl1:=r1.lt;go_wp2_with fail
   refine(qan g (P+1) 4 _ r1a a_ a_ a_).mono ?_;rintro e w2 ⟨y,rfl,y1,y2,r2,o2⟩;have hb2:=o2.block w1.heap.size k_ (fun e=>by have:w1.heap.size=g:=Option.some.inj e;omega);rw[heap_alloc_new] at hb2;have k0:=cell_of_row w2 w1.heap.size 0 _ _ _ hb2;have k1:=cell_of_row w2 w1.heap.size 1 _ _ _ hb2;have k2:=cell_of_row w2 w1.heap.size 2 _ _ _ hb2;have k3:=cell_of_row w2 w1.heap.size 3 _ _ _ hb2;have H02:Hid (qbb g w w2):=hI_ (o1.trans ((qbb.of_below ((bR_ _ _).alloc (nr_ _) _)).trans o2));clear hb2;have hy:y=0∨y=1∨y=2∨y=3:=a_;rcases hy with rfl|rfl|rfl|rfl <;>
   · go_wp2
     go_ret;exact⟨_,rfl,a_,a_,r2.mono a_,H02.out⟩
 · have hx':(x==0)=false:=by rw[beq_eq_false_iff_ne];exact hx
   go_wp2_with fail
   refine(qan g (P+1) 99 _ r1 a_ a_ a_).mono ?_;rintro e w2 ⟨y,rfl,y1,y2,r2,o2⟩;go_wp2_with fail
   refine(qan g (P+2) 10 _ r2 a_ a_ a_).mono ?_;rintro e w3 ⟨z,rfl,z1,z2,r3,o3⟩;go_wp2
   go_ret;exact⟨_,rfl,a_,a_,r3,(o1.trans o2).trans o3⟩
theorem qbb.cell{g:Nat}{a b:World}(h:qbb g a b){k o:Nat}(hk:k<a.heap.size)(hg:k≠g):b.cell? ⟨k,o,none⟩=a.cell? ⟨k,o,none⟩:=World.cell?_of_block (h.block k hk (fun e=>hg (Option.some.inj e)))
theorem R1.only{α:Type}{enc:α→Value}{w w':World}{v:Value}{l:List α}{g:Nat}(h:R1 enc w v l)(ho:qbb g w w')(hne:∀ b o,∀ n c,v=.slice (some ⟨b,o,none⟩) n c→b≠g):R1 enc w' v l:=by
 obtain⟨A,c,rfl,h1,h2,h3⟩:=h;refine⟨A,c,rfl,h1,h2,fun hl=> ?_⟩;obtain⟨b,o,rfl,hb,hc⟩:=h3 hl;exact⟨b,o,rfl,nL_ hb ho.size,fun j hj=>(ho.cell hb (hne b o _ _ rfl)).trans (hc j hj)⟩
def qmt(g P:Nat)(w:World)(e:Ending)(w':World):Prop:=∃ s:ByteArray,e=.returned (.string s)∧s.size≤10∧Rdr w' g P∧qbb g w w'
theorem qc4(g P:Nat)(w:World)(hr:Rdr w g P)(hP:P≤1000000):Calls Tryz.prog 97 #[.pointer (some ⟨g,0,none⟩)] w (qmt g (P+13) w):=by
 have hcv0:=hI_ (fun(W:World) (x:Int)=>qmC W x);have key:∀ (n:Int) (w0:World),0≤n→n≤10→Rdr w0 g (P+3)→qbb g w w0→True:=fun _ _ _ _ _ _=>trivial;clear key;go_enter Tryz.func97,Tryz.ntmps97
 go_wp2_with fail
 refine(qan g P 9 _ hr a_ a_ a_).mono ?_;rintro e w1 ⟨x,rfl,x1,x2,r1,o1⟩;go_wp2_with fail
 refine(qan g (P+1) 20 _ r1 a_ a_ a_).mono ?_;rintro e w2 ⟨y,rfl,y1,y2,r2,o2⟩;have o02:=o1.trans o2;by_cases hy:y=0
 · subst hy;go_wp2_with fail
   refine(qan g (P+2) 3 _ r2 a_ a_ a_).mono ?_;rintro e w3 ⟨z,rfl,z1,z2,r3,o3⟩;have o03:=o02.trans o3;go_wp2
   go_loopw [3,5] (fun s i wr=>∃ (k:Nat) (t:ByteArray),(k:Int)≤8+z∧i=.int .i64 k∧s=.string t∧t.size=k∧Rdr wr g (P+3+k)∧qbb g w wr) (fun _ i _=>(8+z-intOf i).toNat)
   case atStart=>exact⟨0,_,a_,rfl,rfl,rfl,r3,o03⟩
   case round=>
    obtain⟨k,t,hk,rfl,rfl,ht,hrr,hoo⟩:=hrel;by_cases hlt:(k:Int)<8+z
    · go_wp2_with fail
      refine(qan g (P+3+k) 26 _ hrr a_ a_ a_).mono ?_;rintro e w4 ⟨u,rfl,u1,u2,r4,o4⟩;have hcv:=hcv0.out w4 (97+u);have hsz:t.size+1≤100:=a_;go_wp2
      go_roundw
      case rel=>exact⟨k+1,_,a_,t_,rfl,by simp[ht];rfl,r4.below ((bR_ _ _).alloc (nr_ _) _),(hoo.trans o4).thenB ((bR_ _ _).alloc (nr_ _) _)⟩
      case measure=>simp[intOf];omega
    · go_wp2
      go_ret;exact⟨t,rfl,a_,hrr.mono a_,hoo⟩
 · have hy':(y==0)=false:=by rw[beq_eq_false_iff_ne];exact hy
   go_wp2
   go_loopw [3,5] (fun s i wr=>∃ (k:Nat) (t:ByteArray),(k:Int)≤x∧i=.int .i64 k∧s=.string t∧t.size=k∧Rdr wr g (P+3+k)∧qbb g w wr) (fun _ i _=>(x-intOf i).toNat)
   case atStart=>exact⟨0,_,a_,rfl,rfl,rfl,r2.mono a_,o02⟩
   case round=>
    obtain⟨k,t,hk,rfl,rfl,ht,hrr,hoo⟩:=hrel;by_cases hlt:(k:Int)<x
    · go_wp2_with fail
      refine(qan g (P+3+k) 26 _ hrr a_ a_ a_).mono ?_;rintro e w4 ⟨u,rfl,u1,u2,r4,o4⟩;have hcv:=hcv0.out w4 (97+u);have hsz:t.size+1≤100:=a_;go_wp2
      go_roundw
      case rel=>exact⟨k+1,_,a_,t_,rfl,by simp[ht];rfl,r4.below ((bR_ _ _).alloc (nr_ _) _),(hoo.trans o4).thenB ((bR_ _ _).alloc (nr_ _) _)⟩
      case measure=>simp[intOf];omega
    · go_wp2
      go_ret;exact⟨t,rfl,a_,hrr.mono a_,hoo⟩
section
variable {B q:Nat} {w w':World} {f:Fd} {vb vh:Value}
theorem FB.set0(h:FB B q w f vb vh)(n:Int):FB B q (w.setCell ⟨q,0,none⟩ (.int .i64 n)) {f with pub:=n} vb vh:=
 ⟨qas h.box _,⟨h.fo.bl.setq h.box e_ _ _,h.fo.hv.setq h.box e_ _ _⟩⟩
end

section
variable {B q:Nat} {w w':World} {f:Fd} {vb vh:Value}
theorem FB.g5(h:FB B q w f vb vh)(hg:w.grownBy w' vh.ownBlock):(∃ u,w'.cell? ⟨q,5,none⟩=some u)∧w'.frozen? ⟨q,5,none⟩=false:=by
 have hq:=(hg.block q h.lt (fun e=>h.nh e.symm)).trans h.box;exact⟨⟨vh,cell_of_row _ _ 5 _ _ _ hq⟩,by simp[World.frozen?,hq]⟩
end
theorem FB.fill{B q:Nat}{w:World}{f:Fd}{vb vh x0 x1 x2 x3 x4 x5:Value}(hq:w.heap[q]? =some (.cells #[x0,x1,x2,x3,x4,x5] 50 (0,0)))(ho:qaK B w f vb vh):
 FB B q ((((((w.setCell ⟨q,0,none⟩ (.int .i64 f.pub)).setCell ⟨q,1,none⟩ (.int .i64 f.hd.len)).setCell ⟨q,2,none⟩ (.int .i64 f.hd.dg)).setCell ⟨q,3,none⟩ (.int .i64 f.hd.sg)).setCell ⟨q,4,none⟩ vb).setCell ⟨q,5,none⟩ vh) f vb vh:=by
 have b0:=qas (i:=0) hq (.int .i64 f.pub);have b1:=qas (i:=1) b0 (.int .i64 f.hd.len);have b2:=qas (i:=2) b1 (.int .i64 f.hd.dg);have b3:=qas (i:=3) b2 (.int .i64 f.hd.sg);have b4:=qas (i:=4) b3 vb;have b5:=qas (i:=5) b4 vh;exact⟨b5,⟨(((((ho.bl.setq hq e_ _ _).setq b0 e_ _ _).setq b1 e_ _ _).setq b2 e_ _ _).setq b3 e_ _ _).setq b4 e_ _ _,
  (((((ho.hv.setq hq e_ _ _).setq b0 e_ _ _).setq b1 e_ _ _).setq b2 e_ _ _).setq b3 e_ _ _).setq b4 e_ _ _⟩⟩
theorem ON.madeN{e:TypeId}{w:World}{N n:Nat}(z:Array Value)(hn:n≤maxLen):ON N w.heap.size e (w.alloc (.cells (madeCells z (n*N)) e)) (.slice (some ⟨w.heap.size,0,none⟩) n n) n (fun t=>z[t%z.size]!):=by
 refine⟨k_,.inr ⟨w.heap.size,n,madeCells z (n*N),rfl,nr_ _,heap_alloc_new w _,nr_ _,hn,b3_,?_⟩⟩;rw[List.take_of_length_le b3_];apply List.ext_getElem b3_;intro s h1 h2;simp[madeCells]
theorem qhD{P:Program}(t e:TypeId)(i:TypeInfo)(z:Value)(ht:P.underlying t=some (.slice e))(hi:P.info? e=some i)(hz:i.zero=some z){N:Nat}{zc:Array Value}(hsize:i.size=N)(hzc:z.cells=zc)
 (kl kc:IntKind) (n:Nat) (hbytes:i.bytes*n≤281474976710656) (h63:n≤9223372036854775807) (w:World):
 (Instr.makeSlice t (.int kl (n:Int)) (.int kc (n:Int))).run P w=.ok (.slice (some ⟨w.heap.size,0,none⟩) n n) (w.alloc (.cells (madeCells zc (n*N)) e)):=by
 have hb':(i.bytes:Int)*(n:Int)≤281474976710656:=by
  have h:((i.bytes*n:Nat):Int)≤281474976710656:=a_;rwa[Int.natCast_mul] at h
 have hr:=run_make (P:=P) w t e i z ht hi hz kl kc n n a_ (Int.le_refl _) hb' a_;simp only[Int.toNat_natCast,hsize,hzc] at hr;exact hr
end Go.Proofs.YtekaaekpdebloaaGreatDoor
namespace Go.Proofs.YtekaaekpdebloaaGreatDoor

theorem qjb{bl:List ByteArray}{hv:List Bool}(h:∀ (j:Nat) s b,bl[j]? =some s→hv[j]? =some b→qbQ s b=true):qaI bl hv=true:=by
 induction bl generalizing hv with
 |nil=>rfl
 |cons s bl ih=>
  cases hv with
  |nil=>rfl
  |cons b hv=>
   simp only[qaI,Bool.and_eq_true];exact⟨h 0 s b rfl rfl,ih fun j s' b' h1 h2=>h (j+1) s' b' bd_ (by simpa using h2)⟩
end Go.Proofs.YtekaaekpdebloaaGreatDoor
namespace Go.Proofs.YtekaaekpdebloaaGreatDoor
open Go.RowKit

theorem qbZ{g q:Nat}{a w:World}(h:qbb g a w)(hq:a.heap.size≤q)(x0 x1 x2 x3 x4 x5:Value):qbb g a ((((((w.setCell ⟨q,0,none⟩ x0).setCell ⟨q,1,none⟩ x1).setCell ⟨q,2,none⟩ x2).setCell ⟨q,3,none⟩ x3).setCell ⟨q,4,none⟩ x4).setCell ⟨q,5,none⟩ x5):=
 (((((h.set hq _).set hq _).set hq _).set hq _).set hq _).set hq _
theorem qcw{g q P:Nat}{w:World}(h:Rdr w g P)(hq:g<q)(x0 x1 x2 x3 x4 x5:Value):Rdr ((((((w.setCell ⟨q,0,none⟩ x0).setCell ⟨q,1,none⟩ x1).setCell ⟨q,2,none⟩ x2).setCell ⟨q,3,none⟩ x3).setCell ⟨q,4,none⟩ x4).setCell ⟨q,5,none⟩ x5) g P:=
 (((((h.set hq _).set hq _).set hq _).set hq _).set hq _).set hq _
theorem qiC{l:List ByteArray}{m:Nat}{t:ByteArray}(h:∀ x ∈ l,x.size≤10)(ht:t.size≤10):∀ x ∈ l.set m t,x.size≤10:=fun x hx=>by
 rcases List.mem_or_eq_of_mem_set hx with hx|rfl
 · exact h x hx
 · exact ht
def qoI(bad:Int)(st:List Bool)(l:Int×Int):List Bool:=
 let s1:=if st.getD l.1.toNat false&&l.1 !=bad then st.set l.2.toNat true else st
 if s1.getD l.2.toNat false&&l.2 !=bad then s1.set l.1.toNat true else s1
theorem qpe(bad:Int)(st:List Bool)(l:Int×Int):(qoI bad st l).length=st.length:=by
 unfold qoI;simp only;split <;> split <;> simp
def qoN(bad:Int)(ls:List (Int×Int))(st:List Bool)(j:Nat):List Bool:=(ls.take j).foldl (qoI bad) st
theorem qoR{bad:Int}{ls:List (Int×Int)}{st:List Bool}{j:Nat}(h:j<ls.length):qoN bad ls st (j+1)=qoI bad (qoN bad ls st j) ls[j]:=by
 unfold qoN;rw[List.take_succ_eq_append_getElem h,List.foldl_append];rfl
theorem qoX(bad:Int):∀ (l:List (Int×Int)) (st:List Bool),(l.foldl (qoI bad) st).length=st.length
 |[],_=>rfl
 |x::l,st=>by rw[List.foldl_cons,qoX bad l,qpe]
theorem qoT{bad:Int}{ls:List (Int×Int)}{st:List Bool}{j:Nat}:(qoN bad ls st j).length=st.length:=qoX bad _ _
def qoJ(bad:Int)(ls:List (Int×Int))(n:Nat):Nat→List Bool
 |0=>(List.replicate n false).set 0 true
 |k+1=>qoN bad ls (qoJ bad ls n k) ls.length
theorem qoO{bad:Int}{ls:List (Int×Int)}{n:Nat}:∀ k,(qoJ bad ls n k).length=n
 |0=>by simp[qoJ]
 |k+1=>by rw[qoJ,qoT];exact qoO k
def qoL(st:List Bool)(m:Nat):List Int:=((List.range m).filter fun i=>st.getD i false).map fun i:Nat=>(i:Int)
theorem qpo{st:List Bool}{m:Nat}(h:st.getD m false=false):qoL st (m+1)=qoL st m:=by
 unfold qoL;rw[List.range_succ,List.filter_append,List.filter_cons_of_neg (by rw[h];simp),List.filter_nil,List.append_nil]
theorem qpj{st:List Bool}{m:Nat}(h:st.getD m false=true):qoL st (m+1)=qoL st m++[(m:Int)]:=by
 unfold qoL;rw[List.range_succ,List.filter_append,List.filter_cons_of_pos (p:=fun i=>st.getD i false) h,List.filter_nil,List.map_append];rfl
theorem qpi(st:List Bool)(m:Nat):(qoL st m).length≤m:=by
 unfold qoL;rw[List.length_map];exact Nat.le_trans (List.length_filter_le _ _) k_
def qoK(x:Wd):List Int:=if qcc x then qoL (qoJ x.bad x.links x.feeds.length x.feeds.length) x.feeds.length else []
theorem qoQ{x:Wd}(h:qcc x=true):1≤x.feeds.length∧x.feeds.length≤6∧∀ j (hj:j<x.links.length),0≤x.links[j].1∧x.links[j].1<x.feeds.length∧0≤x.links[j].2∧x.links[j].2<x.feeds.length:=by
 unfold qcc at h;simp only[Bool.and_eq_true] at h;obtain⟨⟨⟨⟨⟨⟨⟨h1,-⟩,-⟩,h4⟩,-⟩,-⟩,-⟩,-⟩:=h;obtain⟨-,a,b,-,-⟩:=qb5 h1;refine⟨a,b,fun j hj=> ?_⟩;have:=qcS.1 h4 j hj;unfold qdV qc5 at this;rw[qam hj] at this;simp only[Bool.and_eq_true] at this;have i1:=qak.1 this.1.1;have i2:=qak.1 this.1.2;omega
theorem O1.zeros{α:Type}{enc:α→Value}{e:TypeId}{w:World}{n:Nat}(z:α)(hn:n≤maxLen):O1 enc w.heap.size e (w.alloc (.cells (madeCells #[enc z] n) e)) (.slice (some ⟨w.heap.size,0,none⟩) n n) (List.replicate n z):=by
 unfold O1;rw[List.length_replicate];refine⟨k_,.inr ⟨w.heap.size,n,madeCells #[enc z] n,rfl,nr_ _,heap_alloc_new w _,nr_ _,hn,b3_,?_⟩⟩;rw[List.take_of_length_le b3_];apply List.ext_getElem b3_;intro s h1 h2;simp[madeCells,Nat.mod_one]
section
variable {ops:Array Oper} {rest:List Oper} {o:Oper} {a:Act} {Q:Exit→Act→World→Prop} {w:World} {base:Nat} {v:Value}
theorem qpm{l:List Int}(hown:O1 (Value.int .i64) base 3 w v l)(hn:l.length≤100000000000)(hbase:base≤w.heap.size){y:Int}(hgd:o.guard=none){s x:Operand}
 (ho:o.op=.call {callee:=.builtin .append,args:= #[s,x],argTypes:= #[43,43]}) (hs:a.eval s=v) (hx:a.eval x=.slice (some ⟨w.heap.size,0,none⟩) 1 1)
 (h:∀ v' w',O1 (Value.int .i64) base 3 w' v' (l++[y])→w.grownBy w' v.ownBlock→wpList Tryz.prog ops Q rest (a.put o.dst v') w'):wpList Tryz.prog ops Q (o::rest) a (w.alloc (.cells #[.int .i64 y] 3)):=by
 obtain⟨i0,hi,hz0,hz1,hz2⟩:=info_parts qfx;exact qle 43 3 8 i0 _ Tryz.underlying43 hi hz0 hz1 hz2 rfl a_ hown hn hbase rfl hgd ho hs hx h
end
theorem qpg{k gb m o:Nat}{w:World}{u:Value}(hk:k≠gb):(w.setCell ⟨gb,m,none⟩ u).cell? ⟨k,o,none⟩=w.cell? ⟨k,o,none⟩:=World.cell?_of_block (Below.heap_setCell _ _ _ _ hk)
def qpf(x:Wd)(w:World)(e:Ending)(w':World):Prop:=∃ v',e=.returned v'∧O1 (Value.int .i64) w.heap.size 3 w' v' (qoK x)∧bB w w'
theorem qoM{x:Wd}{b:Bool}(h:Hid (qcc x=b))(vF vL vK vN:Value)(w:World)(hx:WdR w x vF vL vK vN)(ht:∀ j (hj:j<x.net.length),x.net[j].txt.size≤maxLen):
 gV 34 #[.agg #[.int .i64 x.sec,.int .i64 x.bad,vF,vL,vK,vN]] w (.bool b):=by
 rw[←h.out];exact qfi x vF vL vK vN w hx ht
end Go.Proofs.YtekaaekpdebloaaGreatDoor
namespace Go.Proofs.YtekaaekpdebloaaGreatDoor

theorem qlC{a:List Bool}{i j:Nat}:(a.set j true).getD i false=(a.getD i false||(decide (i=j)&&decide (j<a.length))):=by
 rw[List.getD_eq_getElem?_getD,List.getD_eq_getElem?_getD,List.getElem?_set];by_cases h:j=i
 · subst h;by_cases h2:j<a.length
   · simp[h2]
   · simp[h2]
 · have:i≠j:=fun e=>h e.symm;simp[h,this]
def qbW(a b:Int)(x:Wd)(k:Nat):Wd:=
 if (x.feed a).hv.getD k false&& !(x.feed b).hv.getD k false then
  {x with feeds:=x.feeds.set b.toNat (qes (x.feed b) k ((x.feed a).bl.getD k ⟨#[]⟩) (qaQ ((lvs x.f0.bl).take (x.feed a).hd.len.toNat) k)).1}
 else x
def qby(a b:Int)(x:Wd)(n:Nat):Wd:=(List.range n).foldl (qbW a b) x
theorem qdB(a b:Int)(x:Wd)(n:Nat):qby a b x (n+1)=qbW a b (qby a b x n) n:=by
 unfold qby;rw[List.range_succ,List.foldl_append];rfl
def qa5(x:Wd)(a b:Int):Wd:=
 if a=x.bad then x
 else if ((qa0 x a b).feed a).hd.len=((qa0 x a b).feed b).hd.len then qby a b (qa0 x a b) ((qa0 x a b).feed a).hd.len.toNat
 else qa0 x a b
def qft(x:Wd)(l:Int×Int):Wd:=qa5 (qa5 x l.1 l.2) l.2 l.1
def qdb(ls:List (Int×Int))(x:Wd)(k:Nat):Wd:=(ls.take k).foldl qft x
theorem qer{ls:List (Int×Int)}{x:Wd}{k:Nat}(h:k<ls.length):qdb ls x (k+1)=qft (qdb ls x k) ls[k]:=by
 unfold qdb;rw[qaZ h,List.foldl_append];rfl
def qdH(ls:List (Int×Int))(x:Wd):Nat→Wd
 |0=>x
 |k+1=>qdb ls (qdH ls x k) ls.length
def Wd.quiet(x:Wd):Wd:={x with asked:=List.replicate x.asked.length [],net:=[]}
def qgl(x:Wd):Wd:=qdH x.links x.quiet x.feeds.length

theorem qmQ{f0 f:Fd}{n:Nat}(hn:f.bl.length=n)(hl:n≤f0.bl.length)(h:∀ i,i<n→qbi (f.bl.getD i ⟨#[]⟩).data.toList=qbi (f0.bl.getD i ⟨#[]⟩).data.toList):lvs f.bl=(lvs f0.bl).take n:=by
 refine List.ext_getElem (by rw[qcP,List.length_take,qcP];omega) fun i h1 h2=> ?_;rw[qcP] at h1;have e:=h i a_;rw[qam a_,qam a_] at e;have e1:(lvs f.bl)[i]'(by rw[qcP];omega)=qbi f.bl[i].data.toList:=by simp[lvs]
 have e2:((lvs f0.bl).take n)[i]'h2=qbi f0.bl[i].data.toList:=by rw[List.getElem_take];simp[lvs]
 rw[e1,e2];exact e
theorem qfl:∀ {bl:List ByteArray} {hv:List Bool},qaI bl hv=true→∀ {j:Nat} {s b},bl[j]? =some s→hv[j]? =some b→qbQ s b=true
 |[],_,_,j,s,b,h1,_=>by simp at h1
 |_::_,[],_,j,s,b,_,h2=>by simp at h2
 |t::bl,c::hv,h,0,s,b,h1,h2=>by
  simp only[qaI,Bool.and_eq_true] at h;simp at h1 h2;subst h1;subst h2;exact h.1
 |t::bl,c::hv,h,j+1,s,b,h1,h2=>by
  simp only[qaI,Bool.and_eq_true] at h;exact qfl h.2 (j:=j) bd_ (by simpa using h2)
theorem qmW{sec:Int}{f0 f:Fd}{k:Nat}{t:ByteArray}(h0:qaq f0=true)(hk:key sec=true)(hf:qgA sec f0 f)(hkl:k<f.bl.length)(hn:f.hv.getD k false=false)(ht:t.size≤8)
 (htx:qbi t.data.toList=qbi (f0.bl.getD k ⟨#[]⟩).data.toList):
 qes f k t (qaQ ((lvs f0.bl).take f.hd.len.toNat) k)=(f.put k t,true)∧qgA sec f0 (f.put k t):=by
 obtain⟨l1,l2,l3⟩:=qax h0;obtain⟨k1,k2,k3⟩:=qax hf.v;have hle:=hf.le;have hd:f.hd=(qbJ sec ((lvs f0.bl).take f.hd.len.toNat)).1:=by
  rcases hf.hd with h1|h1
  · omega
  · exact h1
 obtain⟨m1,m2⟩:=qfS hk (qcV l2 f.hd.len.toNat);have hdg:f.hd.dg=qbN ((lvs f0.bl).take f.hd.len.toNat):=by rw[←m2,←hd]
 have hlt:k<f0.bl.length:=a_;have hlen:((lvs f0.bl).take f.hd.len.toNat).length=f.hd.len.toNat:=by rw[List.length_take,qcP];omega
 have hg:((lvs f0.bl).take f.hd.len.toNat).getD k 0=qbi (f0.bl.getD k ⟨#[]⟩).data.toList:=by
  rw[List.getD_eq_getElem?_getD,List.getElem?_take_of_lt a_,←List.getD_eq_getElem?_getD,qlW hlt,qam hlt]
 have hck:=qeI (l:=(lvs f0.bl).take f.hd.len.toNat) (i:=(k:Int)) (qcV l2 _) (by rw[hlen];exact qak.2 a_) (by rw[Int.toNat_natCast,hg];exact qgh _) (qga _);rw[hlen,Int.toNat_natCast,hg,←htx,←hdg,show((f.hd.len.toNat:Nat):Int)=f.hd.len by omega] at hck;have hmay:qbR f k t (qaQ ((lvs f0.bl).take f.hd.len.toNat) k)=true:=by
  unfold qbR;rw[hck,Int.toNat_natCast,hn,qak.2 a_];rfl
 have hbl:∀ i,i<f.bl.length→(f.put k t).hv.getD i false=true→qbi ((f.put k t).bl.getD i ⟨#[]⟩).data.toList=qbi (f0.bl.getD i ⟨#[]⟩).data.toList:=fun i hi hh=>by
  unfold Fd.put at hh ⊢;by_cases hie:i=k
  · subst hie;simp only[List.getD_eq_getElem?_getD,List.getElem?_set_self hi,Option.getD_some];rw[←List.getD_eq_getElem?_getD];exact htx
  · simp only[List.getD_eq_getElem?_getD,List.getElem?_set_ne (Ne.symm hie)] at hh ⊢;simp only[←List.getD_eq_getElem?_getD] at hh ⊢;exact hf.bl i hi hh
 have hv:=hf.v;simp only[qaq,Bool.and_eq_true,beq_iff_eq] at hv;obtain⟨⟨⟨⟨⟨v1,v2⟩,v3⟩,v4⟩,v5⟩,v6⟩:=hv;have hbo:qaI (f.put k t).bl (f.put k t).hv=true:=by
  refine qjb fun j s b e1 e2=> ?_;unfold Fd.put at e1 e2;simp only at e1 e2;by_cases hjk:k=j
  · subst hjk;rw[List.getElem?_set_self a_] at e1 e2;cases e1;cases e2
    simp[qbQ,ht]
  · rw[List.getElem?_set_ne hjk] at e1 e2;exact qfl v5 e1 e2
 have hval:qaq (f.put k t)=true:=by
  simp only[qaq,Bool.and_eq_true,beq_iff_eq];refine⟨⟨⟨⟨⟨v1,v2⟩,?_⟩,?_⟩,hbo⟩,?_⟩
  · show((f.bl.set k t).length:Int)=_;rw[List.length_set];exact v3
  · show((f.hv.set k true).length:Int)=_;rw[List.length_set];exact v4
  · by_cases hw:qbA (f.put k t).hv=true
    · have hall:=qds hw;have e:=qmQ (f:=f.put k t) (n:=f.bl.length) (by show(f.bl.set k t).length=_;rw[List.length_set]) a_ (fun i hi=>hbl i hi (by
       have:=hall i (by show i<(f.hv.set k true).length;rw[List.length_set];omega);rw[List.getD_eq_getElem?_getD,this];rfl))
      rw[e,show f.bl.length=f.hd.len.toNat by omega];have:(f.put k t).hd.dg=f.hd.dg:=rfl;rw[this,hdg];simp
    · simp[hw]
 refine⟨?_,hval,hf.pub,hf.le,hf.hd,fun i hi hh=>hbl i (by simpa[Fd.put] using hi) hh⟩;unfold qes;rw[hf.v,Int.toNat_natCast,if_pos (by simpa using ht),if_pos (by rw[hmay,hval];rfl)]

theorem WV.full0{x:Wd}(h:WV x):qn3 x 0:=⟨rfl,fun i hi=>by
 have:=qds h.wh i hi;show(x.feeds.getD 0 Fd.none).hv.getD i false=true;rw[List.getD_eq_getElem?_getD];have e:x.f0=x.feeds.getD 0 Fd.none:=rfl;rw[←e,this];rfl⟩
theorem Gv.setF{x:Wd}(h:WV x){b:Nat}{f:Fd}(hb:b≠0)(hf:qgA x.sec x.f0 f):Gv b x {x with feeds:=x.feeds.set b f}:=
 ⟨rfl,rfl,rfl,rfl,rfl,k_,fun j hj=>getD_set_ne hj _ _,qly hb,h.setF hb hf⟩
section
variable {x:Wd} {i j:Nat}
theorem WV.fdD(h:WV x)(hj:j<x.feeds.length):qgA x.sec x.f0 (x.feeds.getD j Fd.none):=by rw[qam hj];exact h.fd j hj
theorem qhp(h:WV x)(hi:i<x.feeds.length)(hj:j<x.feeds.length)(hl:(x.feeds.getD i Fd.none).hd.len=(x.feeds.getD j Fd.none).hd.len){k:Nat}(hk:k<(x.feeds.getD i Fd.none).hd.len.toNat):
 Gv j x (qbW i j x k)∧((qbW i j x k).feeds.getD j Fd.none).hd=(x.feeds.getD j Fd.none).hd∧
  (∀ m,((qbW i j x k).feeds.getD j Fd.none).hv.getD m false=((x.feeds.getD j Fd.none).hv.getD m false||(decide (m=k)&&(x.feeds.getD i Fd.none).hv.getD k false)))∧
  ((x.feeds.getD i Fd.none).hv.getD k false=true→(x.feeds.getD j Fd.none).hv.getD k false=false→j≠0∧qes (x.feeds.getD j Fd.none) k ((x.feeds.getD i Fd.none).bl.getD k ⟨#[]⟩) (qaQ ((lvs x.f0.bl).take (x.feeds.getD i Fd.none).hd.len.toNat) k)=((x.feeds.getD j Fd.none).put k ((x.feeds.getD i Fd.none).bl.getD k ⟨#[]⟩),true)):=by
 have ha:=h.fdD hi;have hb:=h.fdD hj;obtain⟨a1,a2,a3⟩:=qax ha.v;obtain⟨b1,b2,b3⟩:=qax hb.v;by_cases hc:(x.feeds.getD i Fd.none).hv.getD k false=true∧(x.feeds.getD j Fd.none).hv.getD k false=false
 · obtain⟨c1,c2⟩:=hc;have hka:k<(x.feeds.getD i Fd.none).bl.length:=a_;have ht:((x.feeds.getD i Fd.none).bl.getD k ⟨#[]⟩).size≤8:=by rw[qam hka];exact qbH ha.v _ (List.getElem_mem hka)
   obtain⟨p1,p2⟩:=qmW h.v0 h.key hb a_ c2 ht (ha.bl k hka c1);have hj0:j≠0:=fun e=>by
    subst e;have:=h.full0.2 k a_;rw[c2] at this;cases this
   have e:qbW i j x k={x with feeds:=x.feeds.set j ((x.feeds.getD j Fd.none).put k ((x.feeds.getD i Fd.none).bl.getD k ⟨#[]⟩))}:=by
    unfold qbW Wd.feed;simp only[Int.toNat_natCast];rw[c1,c2,if_pos (show(true&& !false)=true from rfl),hl,p1]
   have es:((qbW i j x k).feeds.getD j Fd.none)=(x.feeds.getD j Fd.none).put k ((x.feeds.getD i Fd.none).bl.getD k ⟨#[]⟩):=by
    rw[e];show(x.feeds.set j _).getD j _=_;rw[List.getD_eq_getElem?_getD,List.getElem?_set_self hj];rfl
   refine⟨by rw[e];exact Gv.setF h hj0 p2,by rw[es];rfl,fun m=> ?_,fun _ _=>⟨hj0,by rw[hl];exact p1⟩⟩;rw[es,c1,Bool.and_true];show((x.feeds.getD j Fd.none).hv.set k true).getD m false=_;rw[qlC,show decide (k<(x.feeds.getD j Fd.none).hv.length)=true from decide_eq_true a_,Bool.and_true]
 · have e:qbW i j x k=x:=by
    unfold qbW Wd.feed;simp only[Int.toNat_natCast];rw[if_neg];simpa using hc
   rw[e];refine⟨Gv.refl j h,rfl,fun m=> ?_,fun c1 c2=>absurd ⟨c1,c2⟩ hc⟩;by_cases hm:m=k
   · subst hm;cases c1:(x.feeds.getD i Fd.none).hv.getD m false
     · simp
     · cases c2:(x.feeds.getD j Fd.none).hv.getD m false
       · exact absurd ⟨c1,c2⟩ hc
       · rfl
   · simp[hm]
theorem qfP(h:WV x)(hij:i≠j)(hi:i<x.feeds.length)(hj:j<x.feeds.length)(hl:(x.feeds.getD i Fd.none).hd.len=(x.feeds.getD j Fd.none).hd.len):∀ n,n≤(x.feeds.getD i Fd.none).hd.len.toNat→
 Gv j x (qby i j x n)∧((qby i j x n).feeds.getD j Fd.none).hd=(x.feeds.getD j Fd.none).hd∧
  (∀ m,((qby i j x n).feeds.getD j Fd.none).hv.getD m false=((x.feeds.getD j Fd.none).hv.getD m false||(decide (m<n)&&(x.feeds.getD i Fd.none).hv.getD m false)))
 |0,_=>⟨Gv.refl j h,rfl,fun m=>by simp[qby]⟩
 |n+1,hn=>by
  obtain⟨g1,g2,g3⟩:=qfP h hij hi hj hl n a_;have hio:=g1.oth i hij;have:=qhp (x:=qby i j x n) (i:=i) (j:=j) (k:=n) g1.wv (by rw[g1.n];exact hi) (by rw[g1.n];exact hj) (by rw[hio,g2];exact hl) (by rw[hio];omega);obtain⟨q1,q2,q3,_⟩:=this;rw[qdB];refine⟨g1.trans q1,q2.trans g2,fun m=> ?_⟩;rw[q3,g3,hio];by_cases hm:m=n
  · subst hm;simp
  · have:decide (m<n+1)=decide (m<n):=by rw[decide_eq_decide];omega
    rw[this];simp[hm]
theorem qfR(h:WV x)(hi:i<x.feeds.length)(hj:j<x.feeds.length)(hL:qbk x i j=true):Gv j x (qa0 x i j):=by
 have hw:=h.head i j;unfold qa0 at hw ⊢;split
 · rename_i hc
   rw[if_pos hc] at hw;simp only[Bool.and_eq_true,beq_iff_eq] at hc;have hc1:=hc.1;unfold qdj at hc1;simp only[Bool.and_eq_true,decide_eq_true_eq] at hc1;have hj0:j≠0:=fun e=>by
    subst e;have:=(h.fdD hi).le;have c:(x.feeds.getD 0 Fd.none).hd.len<(x.feeds.getD i Fd.none).hd.len:=hc1.2;have e0:x.feeds.getD 0 Fd.none=x.f0:=rfl;rw[e0] at c;omega
   simp only[Int.toNat_natCast] at hw ⊢;exact⟨rfl,rfl,rfl,rfl,rfl,k_,fun m hm=>getD_set_ne hm _ _,qly hj0,hw⟩
 · exact Gv.refl j h
theorem qlD(h:WV x)(hij:i≠j)(hi:i<x.feeds.length)(hj:j<x.feeds.length)(hL:qbk x i j=true):Gv j x (qa5 x i j):=by
 have g:=qfR h hi hj hL;unfold qa5;split
 · exact Gv.refl j h
 · split
   · rename_i hl
     exact g.trans (qfP (x:=qa0 x i j) g.wv hij (by rw[g.n];exact hi) (by rw[g.n];exact hj) hl _ (nr_ _)).1
   · exact g
theorem qlE(h:WV x)(hi:i<x.feeds.length)(hj:j<x.feeds.length)(hf:qn3 x j):qa5 x i j=x:=by
 have hle:=(h.fdD hi).le;have e0:(x.feeds.getD j Fd.none).hd.len=x.f0.hd.len:=by rw[hf.1]
 have hw:qa0 x i j=x:=by
  unfold qa0;rw[if_neg];intro hc;rw[Bool.and_eq_true] at hc;have hc1:=hc.1;unfold qdj at hc1;rw[Bool.and_eq_true,decide_eq_true_eq] at hc1;have c:=hc1.2;unfold Wd.feed at c;simp only[Int.toNat_natCast] at c;omega
 have ht:∀ n,n≤(x.feeds.getD j Fd.none).hd.len.toNat→qby i j x n=x:=fun n=>by
  induction n with
  |zero=>intro _;rfl
  |succ n ih=>
   intro hn;rw[qdB,ih a_];unfold qbW Wd.feed;simp only[Int.toNat_natCast];have hv:=qax (h.fdD hj).v;rw[hf.2 n a_];simp
 unfold qa5;rw[hw];split
 · rfl
 · split
   · rename_i hl
     rw[hl];exact ht _ (nr_ _)
   · rfl
theorem qkE:qet x i j=qc9 (x.feeds.getD j Fd.none) (x.feeds.getD i Fd.none).hd (qcv ((lvs x.f0.bl).take (x.feeds.getD i Fd.none).hd.len.toNat) (x.feeds.getD j Fd.none).hd.len):=rfl
theorem qnI(h:WV x)(hj:j<x.feeds.length):((qa0 x i j).feeds.getD j Fd.none).hd=(x.feeds.getD j Fd.none).hd∨(((qa0 x i j).feeds.getD j Fd.none).hd=(x.feeds.getD i Fd.none).hd∧(x.feeds.getD j Fd.none).hd.len<(x.feeds.getD i Fd.none).hd.len):=by
 unfold qa0;split
 · rename_i hc
   rw[Bool.and_eq_true,beq_iff_eq] at hc;obtain⟨c1,c2⟩:=hc;refine .inr ⟨?_,?_⟩
   · show(x.feeds.set (j:Int).toNat (qet x i j).1 |>.getD j Fd.none).hd=_;rw[Int.toNat_natCast,List.getD_eq_getElem?_getD,List.getElem?_set_self hj,Option.getD_some];rw[qkE] at c2 ⊢;have hv:=(h.fdD hj).v;have h0:qdJ (x.feeds.getD j Fd.none) (x.feeds.getD i Fd.none).hd (qcv ((lvs x.f0.bl).take (x.feeds.getD i Fd.none).hd.len.toNat) (x.feeds.getD j Fd.none).hd.len)=0:=by
      unfold qc9 at c2;rw[hv] at c2;exact c2
     rw[qd4 hv h0];rfl
   · unfold qdj at c1;rw[Bool.and_eq_true,decide_eq_true_eq] at c1;exact c1.2
 · exact .inl rfl
theorem WV.len0(h:WV x){k:Nat}:0≤(x.feeds.getD k Fd.none).hd.len:=by
 by_cases hk:k<x.feeds.length
 · have:=qax (h.fdD hk).v;omega
 · rw[List.getD_eq_getElem?_getD,List.getElem?_eq_none a_];decide
theorem NZ.head(h:WV x)(hz:NZ x)(hi:i<x.feeds.length)(hj:j<x.feeds.length)(hL:qbk x i j=true):NZ (qa0 x i j):=fun k hk=>by
 have g:=qfR h hi hj hL;by_cases hkj:k=j
 · subst hkj;rcases qnI (i:=i) h hj with e|⟨e,e2⟩
   · rw[e] at hk ⊢;exact hz k hk
   · rw[e] at hk;have:=h.len0 (k:=k);omega
 · rw[g.oth k hkj] at hk ⊢;exact hz k hk
theorem NZ.give(h:WV x)(hz:NZ x)(hij:i≠j)(hi:i<x.feeds.length)(hj:j<x.feeds.length)(hL:qbk x i j=true):NZ (qa5 x i j):=by
 have g:=qfR h hi hj hL;have hzh:=hz.head h hi hj hL;unfold qa5;split
 · exact hz
 · split
   · rename_i hl
     obtain⟨g2,g3,g4⟩:=qfP (x:=qa0 x i j) g.wv hij (by rw[g.n];exact hi) (by rw[g.n];exact hj) hl _ (nr_ _);intro k hk;by_cases hkj:k=j
     · subst hkj;rw[show qby i k (qa0 x i k) ((qa0 x i k).feed i).hd.len.toNat=qby i k (qa0 x i k) ((qa0 x i k).feeds.getD i Fd.none).hd.len.toNat from rfl] at hk ⊢;rw[g3] at hk ⊢;exact hzh k hk
     · rw[show qby i j (qa0 x i j) ((qa0 x i j).feed i).hd.len.toNat=qby i j (qa0 x i j) ((qa0 x i j).feeds.getD i Fd.none).hd.len.toNat from rfl] at hk ⊢;rw[g2.oth k hkj] at hk ⊢;exact hzh k hk
   · exact hzh
end
end Go.Proofs.YtekaaekpdebloaaGreatDoor
namespace Go.Proofs.YtekaaekpdebloaaGreatDoor
open Go.RowKit

section
variable {B B' C C' q o:Nat} {w w':World} {x:Wd} {vF vL vA vN:Value} {s b:Int}
theorem BX.of(h:w.heap[q]? =some (.cells #[.int .i64 s,.int .i64 b,vF,vL,vA,vN] 28 (0,0))):BX q 0 w s b vF vL vA vN:=by
 obtain⟨c0,c1,c2,c3,c4,c5,_⟩:=qaa h;exact⟨c0,c1,c2,c3,c4,c5,_,_,h,e_⟩
end
end Go.Proofs.YtekaaekpdebloaaGreatDoor
namespace Go.Proofs.YtekaaekpdebloaaGreatDoor

theorem qhy{x:Wd}(h:WV x){l:Int×Int}(hl:l ∈ x.links):∃ i j:Nat,l=((i:Int),(j:Int))∧i<j∧j<x.feeds.length∧qbk x i j=true∧qbk x j i=true:=by
 have h1:=(qc6.1 h.ln).1 l hl;unfold qc5 at h1;rw[Bool.and_eq_true,qak,qak] at h1;obtain⟨⟨a1,a2⟩,a3,a4⟩:=h1;refine⟨l.1.toNat,l.2.toNat,Prod.ext (by show l.1=_;omega) (by show l.2=_;omega),a_,a_,?_,?_⟩
 · refine qd6.2 ?_;have e:qbw (l.1.toNat:Nat) (l.2.toNat:Nat)=l:=by unfold qbw;exact Prod.ext (by show min _ _=l.1;omega) (by show max _ _=l.2;omega)
   rw[e];exact hl
 · refine qd6.2 ?_;have e:qbw (l.2.toNat:Nat) (l.1.toNat:Nat)=l:=by unfold qbw;exact Prod.ext (by show min _ _=l.1;omega) (by show max _ _=l.2;omega)
   rw[e];exact hl
theorem qho{x:Wd}{i j:Nat}(h:WV x)(hij:i≠j)(hi:i<x.feeds.length)(hj:j<x.feeds.length)(hL:qbk x i j=true):Cm x (qa5 x i j):=by
 have g:=qlD h hij hi hj hL;refine⟨g.sec,g.bad,g.links,g.asked,g.net,g.n,g.f0,g.wv,fun hz=>hz.give h hij hi hj hL,fun k hk hf=> ?_⟩;by_cases hkj:k=j
 · subst hkj;rw[qlE h hi hj hf]
 · exact g.oth k hkj
theorem qf3{x y:Wd}(h:y.links=x.links)(a b:Int):qbk y a b=qbk x a b:=by unfold qbk;rw[h]
theorem qnM{x:Wd}(h:WV x){l:Int×Int}(hl:l ∈ x.links):Cm x (qft x l):=by
 obtain⟨i,j,rfl,hij,hj,L1,L2⟩:=qhy h hl;have c1:=qho h (i:=i) (j:=j) a_ a_ hj L1;exact c1.trans (qho c1.wv (i:=j) (j:=i) a_ (by rw[c1.n];omega) (by rw[c1.n];omega) (by rw[qf3 c1.links];exact L2))
theorem qmZ{x:Wd}(h:WV x):∀ k,k≤x.links.length→Cm x (qdb x.links x k)
 |0,_=>Cm.refl h
 |k+1,hk=>by
  have ih:=qmZ h k a_;rw[qer a_];exact ih.trans (qnM ih.wv (by rw[ih.links];exact List.getElem_mem a_))
theorem qfu{x:Wd}(h:WV x):∀ k,Cm x (qdH x.links x k)
 |0=>Cm.refl h
 |k+1=>by
  have ih:=qfu h k;have:=qmZ ih.wv x.links.length (by rw[ih.links];exact nr_ _);rw[ih.links] at this;exact ih.trans this
theorem WV.quiet{x:Wd}(h:WV x):WV x.quiet:=
 ⟨h.set,h.v0,h.wh,h.ln,by show(List.replicate _ _).length=_;rw[List.length_replicate];exact h.na,Nat.zero_le _,h.fd,fun j hj=>by
  have e:x.quiet.asked[j]=[]:=List.getElem_replicate ..;rw[e];rfl,fun j hj=>by exact absurd hj (Nat.not_lt_zero _)⟩
end Go.Proofs.YtekaaekpdebloaaGreatDoor
namespace Go.Proofs.YtekaaekpdebloaaGreatDoor

open Go.RowKit

theorem HW.only{g q z:Nat}{W0 w w':World}{f:Fd}{vb vh:Value}{h:Hd}{gv:Value}{gl:List Int}(k:HW g q z W0 w f vb vh h gv gl)(ho:qbb g w w')(hg:W0.heap.size≤g)(hgl:g<w.heap.size)(hq:g≠q)(hz:g≠z):HW g q z W0 w' f vb vh h gv gl:=
 ⟨k.fb.only ho (Nat.lt_succ_self g) hq,(ho.block z (Array.getElem?_eq_some_iff.1 k.hd).1 (fun e=>hz (Option.some.inj e).symm)).trans k.hd,k.gr.only ho (Nat.lt_succ_self g),k.bel.trans (ho.below hg hgl)⟩
def qjG(s b:Int)(n:Nat):Wd:=⟨s,b,List.replicate n ⟨qhr s,Hd.zero,[],[]⟩,[],List.replicate n [],[]⟩
theorem qgH{p:Int}(h:key p=true):qaq ⟨p,Hd.zero,[],[]⟩=true:=by
 unfold qaq;rw[h];rfl
theorem qmk{s b:Int}{n:Nat}(h:qfb s n b=true):DW (qjG s b n):=by
 obtain⟨h1,h2,h3,_,_⟩:=qb5 h;have hf0:(qjG s b n).f0=⟨qhr s,Hd.zero,[],[]⟩:=by
  unfold Wd.f0 qjG;simp only;rw[qam n_];simp
 refine⟨⟨by simpa[qjG] using h,by rw[hf0];exact qgH (qfw h1),by rw[hf0];rfl,rfl,by simp[qjG],Nat.zero_le _,fun j hj=> ?_,fun j hj=> ?_,fun j hj=>absurd hj (Nat.not_lt_zero _)⟩,fun k hk=> ?_⟩
 · rw[hf0];simp only[qjG,List.getElem_replicate];exact⟨qgH (qfw h1),rfl,Int.le_refl _,.inl rfl,fun i hi=>absurd hi (Nat.not_lt_zero _)⟩
 · simp only[qjG,List.getElem_replicate];rfl
 · unfold qjG;simp only;rw[List.getD_eq_getElem?_getD,List.getElem?_replicate];split <;> rfl
section
variable {x:Wd}
theorem DW.grow(h:DW x)(t:ByteArray):DW (qd1 x t):=by
 refine⟨h.v.grow t,?_⟩;unfold qd1;split
 · exact h.z
 · rename_i hc
   obtain⟨m1,m2,m3⟩:=h.v.more (t:=t) a_ a_;have h0:=qax h.v.v0;exact h.z.set fun e=>by rw[m3] at e;omega
theorem DW.turn(h:DW x)(a b:Int)(up:Bool):DW (qeh x a b up):=by
 refine⟨h.v.turn a b up,?_⟩;unfold qeh;split
 · exact h.z
 · exact h.z
theorem DW.head(h:DW x)(a b:Int):DW (qa0 x a b):=by
 refine⟨h.v.head a b,?_⟩;by_cases hc:qdj x a b=true
 · have hc':=hc;unfold qdj at hc';rw[Bool.and_eq_true] at hc';obtain⟨i,j,rfl,rfl,hi,hj,_,_⟩:=h.v.fd_ hc'.1;exact h.z.head h.v hi hj hc'.1
 · unfold qa0;rw[if_neg (by rw[Bool.and_eq_true];exact fun e=>hc e.1)];exact h.z
theorem NZ.feed(h:NZ x)(a:Int):(x.feed a).hd.len=0→(x.feed a).hd=Hd.zero:=h a.toNat
theorem NZ.store(h:NZ x)(p:Pc):NZ (qd2 x p):=by
 unfold qd2;split
 · exact h
 · split
   · rename_i hput
     obtain⟨t1,t2,t3,t4,t5⟩:=qfO hput;rw[t5];exact h.set (x:=x) (fun e=>h.feed p.to_ e)
   · exact h
theorem DW.do_(h:DW x)(e:Ev):DW (wdo x e):=by
 refine⟨h.v.do_ e,?_⟩;unfold wdo;repeat' split
 · exact(h.grow _).z
 iterate 2
  · exact(h.turn _ _ _).z
 · exact(h.head _ _).z
 · unfold qiT;split <;> exact h.z
 · unfold qbO;split <;> exact h.z
 iterate 2
  · unfold qgz;split
    · split
      · exact h.z
      · exact NZ.store (x:={x with net:=x.net.eraseIdx e.a.toNat}) h.z _
    · exact h.z
 · exact h.z
end
theorem Em.sl_{v:Value}(h:Em v):∃ A c,v=.slice A 0 c:=by obtain⟨A,c,h,_⟩:=h;exact⟨A,c,h⟩
theorem Em.rp{v:Value}(h:Em v)(w:World):RP w v []:=by
 obtain⟨A,c,rfl,h1,h2⟩:=h;exact⟨A,c,rfl,⟨Nat.zero_le _,h1⟩,h2,fun h=>by simp at h⟩
theorem Em.pieces{v:Value}(h:Em v)(w:World):qbx w v []:=by
 obtain⟨A,c,rfl,h1,h2⟩:=h;exact⟨fun _=>.int .i64 0,⟨A,c,rfl,⟨Nat.zero_le _,h1⟩,h2,fun h=>by simp at h⟩,fun j hj=>an_⟩
theorem qno{B:Nat}{w:World}{s b:Int}{n:Nat}{vF vL vA vN:Value}{F G:Nat→Value}(h1:ON 6 B 50 w vF n F)(h2:qjJ (qhr s) n F)(h3:ON 1 B 54 w vA n G)(h4:qk0 n G)(h5:Em vL)(h6:Em vN):WdS w (qjG s b n) vF vL vA vN:=by
 intro w' hk;refine⟨h2.feeds (h1.keepT hk e_).rn,h5.rp _,⟨G,?_,fun j hj=> ?_⟩,h6.pieces _⟩
 · show RN 1 w' vA (List.replicate n ([]:List (Int×Int))).length G;rw[List.length_replicate];exact(h3.keepT hk e_).rn
 · have hj':j<n:=by simpa[qjG] using hj
   simp only[qjG,List.getElem_replicate];exact(h4 j hj').rp _
end Go.Proofs.YtekaaekpdebloaaGreatDoor
namespace Go.Proofs.YtekaaekpdebloaaGreatDoor
open Go.RowKit
attribute [local go_sem ↓] Go.wp_at_zero Go.wp_at_succ

def qk2(g P:Nat)(w:World)(e:Ending)(w':World):Prop:=∃ c d:Int,e=.returned (.agg #[.int .i64 c,.int .i64 d])∧Rdr w' g P∧qbb g w w'
theorem qgS(g P:Nat)(w:World)(hr:Rdr w g P)(hP:P≤1000000):Calls Tryz.prog 178 #[.pointer (some ⟨g,0,none⟩)] w (qk2 g (P+4) w):=by
 have hgl:=hr.lt;have hr0:=hr.below (qab (bR_ _ _) (.cells #[.int .i64 0,.int .i64 0] 109));have o0:qbb g w (w.alloc (.cells #[.int .i64 0,.int .i64 0] 109)):=qbb.of_below (qab (bR_ _ _) _);have hz0:(w.alloc (.cells #[.int .i64 0,.int .i64 0] 109)).heap[w.heap.size]? =some (.cells #[.int .i64 0,.int .i64 0] 109 (0,0)):=heap_alloc_new w _;go_enter Tryz.func178,Tryz.ntmps178
 go_wp2_with fail
 refine(qan g P 6 _ hr0 a_ a_ a_).mono ?_;rintro e w1 ⟨c,rfl,c1,c2,r1,o1⟩;go_wp2_with fail
 refine(qan g (P+1) 8 _ r1 a_ a_ a_).mono ?_;rintro e w2 ⟨d,rfl,d1,d2,r2,o2⟩;have o02:=o0.trans (o1.trans o2);have hz2:=((o1.trans o2).block _ k_ (fun e=>by have:=Option.some.inj e;omega)).trans hz0;have hz2l:=qai hz2;obtain⟨W2,HW2⟩:=nm_ (w2.alloc (.cells #[.int .i64 c,.int .i64 d] 109));have r2a:Rdr W2 g (P+2):=by rw[←HW2.out];exact r2.below (qab (bR_ _ _) _)
 have o2a:qbb g w W2:=by rw[←HW2.out];exact o02.thenB (qab (bR_ _ _) _)
 have hz2a:W2.heap[w.heap.size]? =some (.cells #[.int .i64 0,.int .i64 0] 109 (0,0)):=by rw[←HW2.out];exact qau hz2
 have hy2a:W2.heap[w2.heap.size]? =some (.cells #[.int .i64 c,.int .i64 d] 109 (0,0)):=by rw[←HW2.out];exact heap_alloc_new w2 _
 clear o02 hz2 hr0 o0 hz0 r1 o1 r2 o2 hr;go_wp2_with fail
 rw[HW2.out];refine(qan g (P+2) 24 W2 r2a a_ a_ a_).mono ?_;rintro e w3 ⟨s,rfl,s1,s2,r3,o3⟩;have hz3:=(o3.block _ (qai hz2a) (fun e=>by have:=Option.some.inj e;omega)).trans hz2a;have hy3:=(o3.block _ (qai hy2a) (fun e=>by have:=Option.some.inj e;omega)).trans hy2a;have o3a:=o2a.trans o3;have hne:w.heap.size≠w2.heap.size:=a_;have hne':w2.heap.size≠w.heap.size:=a_;have HZ3:=hI_ hz3;have HY3:=hI_ hy3;clear r2a o2a hz2a hy2a o3 hz3 hy3;have HFIN:Hid (∀ (W:World) (a b:Int),Rdr W g (P+4)→qbb g w W→qk2 g (P+4) w (.returned (.agg #[.int .i64 a,.int .i64 b])) ((W.setCell ⟨w.heap.size,0,none⟩ (.int .i64 a)).setCell ⟨w.heap.size,1,none⟩ (.int .i64 b))):=hI_ (fun W a b h1 h2=>
  ⟨a,b,rfl,(h1.set (p:=⟨w.heap.size,0,none⟩) hgl _).set (p:=⟨w.heap.size,1,none⟩) hgl _,(h2.set (p:=⟨w.heap.size,0,none⟩) (nr_ _) _).set (p:=⟨w.heap.size,1,none⟩) (nr_ _) _⟩)
 have hs:s=0∨s=1∨2≤s:=a_;rcases hs with rfl|rfl|hs
 · go_wp2_with fail
   refine(qan g (P+3) 2 w3 r3 a_ a_ a_).mono ?_;rintro e w4 ⟨x,rfl,x1,x2,r4,o4⟩;have hz4:=(o4.block _ (qai HZ3.out) (fun e=>by have:=Option.some.inj e;omega)).trans HZ3.out;have hy4:=(o4.block _ (qai HY3.out) (fun e=>by have:=Option.some.inj e;omega)).trans HY3.out;have o4a:=o3a.trans o4;obtain⟨z0,z1,zf⟩:=qaH hz4;obtain⟨y0,y1,yf⟩:=qaH hy4;have r5:=r4.set (p:=⟨w2.heap.size,0,none⟩) (by show g<w2.heap.size;omega) (.int .i64 (x*7-1));have o5:=o4a.set (p:=⟨w2.heap.size,0,none⟩) (by show w.heap.size≤w2.heap.size;omega) (.int .i64 (x*7-1));clear hz4 hy4 o4 o4a r4 r3 o3a;go_wp2_with fail
   refine bodyPost_ret (v:=.agg #[.int .i64 (x*7-1),.int .i64 d]) bU_ rfl (HFIN.out _ _ _ r5 o5)
 · have r3a:=r3.below (qab (bR_ _ _) (.cells #[.int .i64 (-1),.int .i64 15,.int .i64 16] 3));have hz3a:(w3.alloc (.cells #[.int .i64 (-1),.int .i64 15,.int .i64 16] 3)).heap[w3.heap.size]? =some (.cells #[.int .i64 (-1),.int .i64 15,.int .i64 16] 3 (0,0)):=heap_alloc_new w3 _;have hl3:=qai HY3.out;have hlz3:=qai HZ3.out;go_wp2_with fail
   refine(qan g (P+3) 3 _ r3a a_ a_ a_).mono ?_;rintro e w4 ⟨x,rfl,x1,x2,r4,o4⟩;have hz4:=(o4.block _ n_ (fun e=>by have:=Option.some.inj e;omega)).trans (qau (o:=.cells #[.int .i64 (-1),.int .i64 15,.int .i64 16] 3) HZ3.out);have hy4:=(o4.block _ n_ (fun e=>by have:=Option.some.inj e;omega)).trans (qau (o:=.cells #[.int .i64 (-1),.int .i64 15,.int .i64 16] 3) HY3.out);have hk4:=(o4.block w3.heap.size k_ (fun e=>by have:=Option.some.inj e;omega)).trans hz3a;have o4a:=(o3a.thenB (qab (bR_ _ _) (.cells #[.int .i64 (-1),.int .i64 15,.int .i64 16] 3))).trans o4;obtain⟨z0,z1,zf⟩:=qaH hz4;obtain⟨y0,y1,yf⟩:=qaH hy4;have k0:=cell_of_row w4 w3.heap.size 0 _ _ _ hk4;have k1:=cell_of_row w4 w3.heap.size 1 _ _ _ hk4;have k2:=cell_of_row w4 w3.heap.size 2 _ _ _ hk4;have hx:x=0∨x=1∨x=2:=a_;clear hz4 hy4 hk4 o4 r3a r3 hz3a o3a;rcases hx with rfl|rfl|rfl
   · have r5:=r4.set (p:=⟨w2.heap.size,1,none⟩) (by show g<w2.heap.size;omega) (.int .i64 (-1));have o5:=o4a.set (p:=⟨w2.heap.size,1,none⟩) (by show w.heap.size≤w2.heap.size;omega) (.int .i64 (-1));clear r4 o4a;go_wp2_with fail
     refine bodyPost_ret (v:=.agg #[.int .i64 c,.int .i64 (-1)]) bU_ rfl (HFIN.out _ _ _ r5 o5)
   · have r5:=r4.set (p:=⟨w2.heap.size,1,none⟩) (by show g<w2.heap.size;omega) (.int .i64 15);have o5:=o4a.set (p:=⟨w2.heap.size,1,none⟩) (by show w.heap.size≤w2.heap.size;omega) (.int .i64 15);clear r4 o4a;go_wp2_with fail
     refine bodyPost_ret (v:=.agg #[.int .i64 c,.int .i64 15]) bU_ rfl (HFIN.out _ _ _ r5 o5)
   · have r5:=r4.set (p:=⟨w2.heap.size,1,none⟩) (by show g<w2.heap.size;omega) (.int .i64 16);have o5:=o4a.set (p:=⟨w2.heap.size,1,none⟩) (by show w.heap.size≤w2.heap.size;omega) (.int .i64 16);clear r4 o4a;go_wp2_with fail
     refine bodyPost_ret (v:=.agg #[.int .i64 c,.int .i64 16]) bU_ rfl (HFIN.out _ _ _ r5 o5)
 · have n0:(s==0)=false:=by rw[beq_eq_false_iff_ne];omega
   have n1:(s==1)=false:=by rw[beq_eq_false_iff_ne];omega
   obtain⟨z0,z1,zf⟩:=qaH HZ3.out;obtain⟨y0,y1,yf⟩:=qaH HY3.out;have r5:=r3.mono (Q:=P+4) a_;clear hs r3;go_wp2_with fail
   refine bodyPost_ret (v:=.agg #[.int .i64 c,.int .i64 d]) bU_ rfl (HFIN.out _ _ _ r5 o3a)

def qnt(g P:Nat)(w:World)(e:Ending)(w':World):Prop:=∃ v l,e=.returned v∧qav w.heap.size 109 w' v l∧l.length≤20∧Rdr w' g P∧qbb g w w'
theorem qm3(l:List (Int×Int))(a:Int×Int)(en:Bool):(qfs l a en).1.length≤l.length+1:=by
 unfold qfs;repeat' split
 all_goals simp
theorem qhx(g P:Nat)(w:World)(hr:Rdr w g P)(hP:P≤900000):Calls Tryz.prog 100 #[.pointer (some ⟨g,0,none⟩)] w (qnt g (P+100) w):=by
 have hgl:=hr.lt;have hr0:=hr.below (qab (bR_ _ _) (.cells #[] 109));have o0:qbb g w (w.alloc (.cells #[] 109)):=qbb.of_below (qab (bR_ _ _) _);have hm0:qav w.heap.size 109 (w.alloc (.cells #[] 109)) (.slice (some ⟨w.heap.size,0,none⟩) 0 0) []:=qav.empty (heap_alloc_new w _) (nr_ _);have HM0:=hI_ hm0;have HO0:=hI_ o0;clear hm0 o0;go_enter Tryz.func100,Tryz.ntmps100
 go_wp2_with fail
 refine(qan g P 14 _ hr0 a_ a_ a_).mono ?_;rintro e w1 ⟨n,rfl,n1,n2,r1,o1⟩;have HM1:=hI_ (HM0.out.only o1 hr0 e_);have HO1:=hI_ (HO0.out.trans o1);have HR1:=hI_ r1;clear HM0 HO0 hr0 r1 o1 hr;go_wp2_with fail
 go_loopw [3,5] (fun v i wr=>∃ (l:List (Int×Int)) (k:Nat),(k:Int)≤n∧i=.int .i64 k∧l.length≤k∧qav w.heap.size 109 wr v l∧Rdr wr g (P+1+5*k)∧qbb g w wr) (fun _ i _=>(n-intOf i).toNat)
 case atStart=>exact⟨[],0,a_,rfl,k_,HM1.out,by simpa using HR1.out,HO1.out⟩
 case round=>
  obtain⟨l,k,hk,rfl,hl,ho,hrr,hoo⟩:=hrel;by_cases hlt:(k:Int)<n
  · have HO:=hI_ ho;have HOO:=hI_ hoo;have HRR:=hI_ hrr;clear ho hoo;go_wp2_with fail
    refine(qgS g (P+1+5*k) _ hrr a_).mono ?_;rintro e w3 ⟨c,d,rfl,r3,o3⟩;have HO3:=hI_ (HO.out.only o3 HRR.out e_);have HOO3:=hI_ (HOO.out.trans o3);have HRR3:=hI_ r3;clear o3 hrr;go_wp2_with fail
    refine(qan g (P+1+5*k+4) 3 w3 r3 a_ a_ a_).mono ?_;rintro e w4 ⟨y,rfl,y1,y2,r4,o4⟩;have ho4:=HO3.out.only o4 HRR3.out e_;have hv4:=ho4.r;have HOO4:=hI_ (HOO3.out.trans o4);have HRR4:=hI_ r4;have HO4:=hI_ ho4;have hs4:w.heap.size≤w4.heap.size:=HOO4.out.size;clear o4 r3 r4 ho4;go_wp2_with fail
    refine(qfF l (c,d) _ _ w4 hv4 a_).mono ?_;rintro e w5 ⟨v5,rfl,h5,b5⟩;have hwl:=qm3 l (c,d) (y==0);obtain⟨r5,HR5⟩:=nm_ ((qfs l (c,d) (y==0)).1);obtain⟨q5,HQ5⟩:=nm_ ((qfs l (c,d) (y==0)).2);rw[HR5.out] at h5 hwl;rw[HQ5.out];have H5:=hI_ (h5.mono (B':=w.heap.size) hs4);have HOO5:=hI_ (HOO4.out.thenB b5);have HRR5:=hI_ (HRR4.out.below b5);have HO5:=hI_ (HO4.out.below b5);obtain⟨A5,c5,rfl⟩:=H5.out.sl;clear h5 b5 hv4;cases q5
    · go_wp2_with fail
      go_roundw
      case rel=>exact⟨l,k+1,a_,t_,a_,HO5.out,HRR5.out.mono a_,HOO5.out⟩
      case measure=>simp[intOf];omega
    · go_wp2_with fail
      go_roundw
      case rel=>exact⟨r5,k+1,a_,t_,a_,H5.out,HRR5.out.mono a_,HOO5.out⟩
      case measure=>simp[intOf];omega
  · have hk13:k≤13:=a_;have HO:=hI_ ho;have HOO:=hI_ hoo;have HRR:=hI_ hrr;clear ho hoo;go_wp2_with fail
    refine(qan g (P+1+5*k) 16 _ hrr a_ a_ a_).mono ?_;rintro e w3 ⟨y,rfl,y1,y2,r3,o3⟩;have HO3:=hI_ (HO.out.only o3 HRR.out e_);have HOO3:=hI_ (HOO.out.trans o3);have HRR3:=hI_ r3;clear o3 hrr;by_cases hy:y=0
    · subst hy;go_wp2_with fail
      refine(qgS g (P+1+5*k+1) w3 r3 a_).mono ?_;rintro e w4 ⟨c,d,rfl,r4,o4⟩;have ho4:=HO3.out.only o4 HRR3.out e_;have HOO4:=hI_ (HOO3.out.trans o4);have HRR4:=hI_ r4;have hs4:w.heap.size≤w4.heap.size:=HOO4.out.size;obtain⟨A4,c4,rfl⟩:=ho4.sl;have HO4:=hI_ ho4;clear o4 r3 r4 ho4;go_wp2_with (at_builtin;refine qaF rfl fun K hK=>qfB (base:=w.heap.size) HO4.out a_ hs4 rfl rfl rfl rfl (fun A7 c7 w7 ho7 hg7=>hK _ _ ?_))
      go_ret;exact⟨_,_,rfl,ho7,n_,(HRR4.out.grown hg7 (fun r e=>by have:=(HO4.out.lt' r e).1;omega)).mono a_,HOO4.out.grown hg7 (fun r e=>(HO4.out.lt' r e).1)⟩
    · have hy':(y==0)=false:=by rw[beq_eq_false_iff_ne];exact hy
      go_wp2_with fail
      go_ret;exact⟨_,_,rfl,HO3.out,a_,HRR3.out.mono a_,HOO3.out⟩
def qi5(g P:Nat)(w:World)(e:Ending)(w':World):Prop:=∃ x uF uL uA uN,e=.returned (.agg #[.int .i64 x.sec,.int .i64 x.bad,uF,uL,uA,uN])∧DW x∧WdS w' x uF uL uA uN∧Rdr w' g P∧qbb g w w'
section
variable {g P P' q y:Nat} {w wr w2:World} {x x':Wd} {vF vL vA vN uF uL uA uN:Value}
theorem qg6.put(h:qg6 g P w q y x vF vL vA vN wr)(hb:bB wr w2)(hs:WdS w2 x' uF uL uA uN)(hd:DW x'):
 qg6 g P w q y x' uF uL uA uN ((((((w2.setCell ⟨y,0,none⟩ (.int .i64 x'.sec)).setCell ⟨y,1,none⟩ (.int .i64 x'.bad)).setCell ⟨y,2,none⟩ uF).setCell ⟨y,3,none⟩ uL).setCell ⟨y,4,none⟩ uA).setCell ⟨y,5,none⟩ uN):=by
 have h2:=h.below hb;have hgy:g<y:=by have:=h.hg;have:=h.hy;omega
 exact⟨(qcN (by have:=h.hy;omega) _ _ _ _ _ _).trans h2.z,qas (i:=5) (qas (i:=4) (qas (i:=3) (qas (i:=2) (qas (i:=1) (qas (i:=0) h2.b _) _) _) _) _) _,
  hs.set6 h2.b _ _ _ _ _ _,qcw h2.r hgy _ _ _ _ _ _,qbZ h2.o (by have:=h.hq;have:=h.hy;omega) _ _ _ _ _ _,hd,h.hq,h.hy,h.hg⟩
theorem qg6.ret(h:qg6 g P w q y x vF vL vA vN wr):qi5 g P w (.returned (.agg #[.int .i64 x.sec,.int .i64 x.bad,vF,vL,vA,vN])) ((((((wr.setCell ⟨q,0,none⟩ (.int .i64 x.sec)).setCell ⟨q,1,none⟩ (.int .i64 x.bad)).setCell ⟨q,2,none⟩ vF).setCell ⟨q,3,none⟩ vL).setCell ⟨q,4,none⟩ vA).setCell ⟨q,5,none⟩ vN):=
 ⟨x,_,_,_,_,rfl,h.d,h.s.set6 h.z _ _ _ _ _ _,qcw h.r h.hg _ _ _ _ _ _,qbZ h.o (by have:=h.hq;omega) _ _ _ _ _ _⟩
end
theorem qnW(x:Wd)(t:ByteArray):(qd1 x t).feeds.length=x.feeds.length:=by unfold qd1;split <;> simp
theorem qnZ(x:Wd)(a b:Int)(u:Bool):(qeh x a b u).feeds.length=x.feeds.length:=by unfold qeh;split <;> rfl
def qoC(g P:Nat)(w:World)(q N:Nat)(wx:World)(s4:Value):Prop:=
 ∃ (y m:Nat) (s b:Int) (A:Option Addr) (c:Nat) (vL vA vN:Value),s4=.pointer (some ⟨y,0,none⟩)∧wx.heap[q]? =some (.cells #[.int .i64 0,.int .i64 0,.slice none 0 0,.slice none 0 0,.slice none 0 0,.slice none 0 0] 28 (0,0))∧wx.heap[y]? =some (.cells #[.int .i64 s,.int .i64 b,.slice A m c,vL,vA,vN] 28 (0,0))∧
  Rdr wx g P∧qbb g w wx∧q<y∧m≤6∧(m=0∨(m=N∧∃ x:Wd,x.sec=s∧x.bad=b∧x.feeds.length=N∧DW x∧WdS wx x (.slice A m c) vL vA vN))
theorem qiu(g P:Nat)(w:World)(hr:Rdr w g P)(hP:P≤90000):Calls Tryz.prog 62 #[.pointer (some ⟨g,0,none⟩)] w (qi5 g (P+200) w):=by
 have hgl:=hr.lt;obtain⟨W0,HW0⟩:=nm_ (w.alloc (.cells #[.int .i64 0,.int .i64 0,.slice none 0 0,.slice none 0 0,.slice none 0 0,.slice none 0 0] 28));have hb0:bB w W0:=by rw[←HW0.out];exact qab (bR_ _ _) _
 have hz0:W0.heap[w.heap.size]? =some (.cells #[.int .i64 0,.int .i64 0,.slice none 0 0,.slice none 0 0,.slice none 0 0,.slice none 0 0] 28 (0,0)):=by rw[←HW0.out];exact heap_alloc_new _ _
 have hr0:=hr.below hb0;have ho0:qbb g w W0:=qbb.of_below hb0;have hne:∀ k,w.heap.size≤k→some k≠some g:=fun k hk e=>by have:=Option.some.inj e;omega
 have HNE:=hI_ hne;clear hne hb0 hr;go_enter Tryz.func62,Tryz.ntmps62
 go_wp2_with fail
 rw[HW0.out];refine(qan g P 5 W0 hr0 a_ a_ a_).mono ?_;rintro e w1 ⟨x,rfl,x1,x2,r1,o1⟩;obtain⟨N,hN⟩:∃ N:Nat,2+x=(N:Int):=⟨(2+x).toNat,a_⟩
 have hN2:2≤N:=a_;have hN6:N≤6:=a_;have ho1:=ho0.trans o1;have hz1:=(o1.block _ (qai hz0) (HNE.out _ (nr_ _))).trans hz0;have HZ1:=hI_ hz1;have HO1:=hI_ ho1;clear hz0 ho0 hr0 o1 hz1 ho1;go_upto_region 2 with fail
 clear hN x1 x2;go_cut [4] (fun s4 wx=>qoC g (P+20) w w.heap.size N wx s4)
 case first=>
  go_wp2_with fail
  refine(qjz g (P+1) w1 r1 a_).mono ?_;rintro e w2 ⟨s,rfl,s1,s2,r2,o2⟩;have HO2:=hI_ (HO1.out.trans o2);have HZ2:=hI_ ((o2.block _ (qai HZ1.out) (HNE.out _ (nr_ _))).trans HZ1.out);clear o2 r1;go_wp2_with fail
  refine(qan g (P+1+2) (N+2) w2 r2 a_ a_ a_).mono ?_;rintro e w3 ⟨u,rfl,u1,u2,r3,o3⟩;have HO3:=hI_ (HO2.out.trans o3);have HZ3:=hI_ ((o3.block _ (qai HZ2.out) (HNE.out _ (nr_ _))).trans HZ2.out);have HR3:=hI_ r3;clear o3 r2 r3;obtain⟨ok,HOK⟩:=nm_ (qfb s N (u/2*2-1));cases ok
  · go_wp2_with fail
    refine(qeE HOK w3).mono ?_;rintro e w4 ⟨vF,vL,vA,vN,F,G,rfl,f1,f2,f3,f4,f5,f6,b4⟩;obtain⟨A,c,rfl⟩:=f1.rn.sl;obtain⟨A2,c2,rfl⟩:=f3.rn.sl;obtain⟨A3,c3,rfl⟩:=f5.sl_;obtain⟨A4,c4,rfl⟩:=f6.sl_;have HO4:=hI_ (HO3.out.thenB b4);have HZ4:=hI_ ((b4.block _ (qai HZ3.out)).trans HZ3.out);have HR4:=hI_ (HR3.out.below b4);clear b4 f1 f2 f3 f4 f5 f6;go_wp2_with fail
    go_meet;exact⟨w4.heap.size,0,_,_,_,_,_,_,_,rfl,qau HZ4.out,heap_alloc_new _ _,(HR4.out.below (qab (bR_ _ _) _)).mono a_,HO4.out.thenB (qab (bR_ _ _) _),qai HZ4.out,a_,.inl rfl⟩
  · go_wp2_with fail
    refine(qdu HOK w3).mono ?_;rintro e w4 ⟨vF,vL,vA,vN,F,G,rfl,f1,f2,f3,f4,f5,f6,b4⟩;have HS4:=hI_ (qno (b:=u/2*2-1) f1 f2 f3 f4 f5 f6);obtain⟨A,c,rfl⟩:=f1.rn.sl;obtain⟨A2,c2,rfl⟩:=f3.rn.sl;obtain⟨A3,c3,rfl⟩:=f5.sl_;obtain⟨A4,c4,rfl⟩:=f6.sl_;have HO4:=hI_ (HO3.out.thenB b4);have HZ4:=hI_ ((b4.block _ (qai HZ3.out)).trans HZ3.out);have HR4:=hI_ (HR3.out.below b4);clear b4 f1 f2 f3 f4 f5 f6;go_wp2_with fail
    go_meet;exact⟨w4.heap.size,N,_,_,_,_,_,_,_,rfl,qau HZ4.out,heap_alloc_new _ _,(HR4.out.below (qab (bR_ _ _) _)).mono a_,HO4.out.thenB (qab (bR_ _ _) _),qai HZ4.out,a_,
     .inr ⟨rfl,qjG s (u/2*2-1) N,rfl,rfl,by simp[qjG],qmk HOK.out,HS4.out.below (qab (bR_ _ _) _)⟩⟩
 case rest=>
  obtain⟨y,m,s,b,A,c,vL,vA,vN,rfl,hz,hy,hrd,hon,hqy,hm6,hx⟩:=hcut;obtain⟨w4,rfl⟩:∃ W,W=wc:=⟨_,rfl⟩
  have y0:=qaa hy;obtain⟨bb,hbb⟩:∃ bb,((m:Int)==0)=bb:=⟨_,rfl⟩
  have HZ:=hI_ hz;have HY:=hI_ hy;have HX:=hI_ hx;have HRD:=hI_ hrd;have HON:=hI_ hon;have HBB:=hI_ hbb;clear hz hy hx hon;go_upto_if 29 with fail
  clear hbb;go_cut [] (fun wx=>∃ (x:Wd) (uF uL uA uN:Value),x.feeds.length=N∧qg6 g (P+20) w w.heap.size y x uF uL uA uN wx)
  case first=>
   cases bb
   · go_wp2_with fail
     go_meet;have hm0:¬ m=0:=fun e=>by have:=HBB.out;subst e;cases this
     rcases HX.out with h|⟨rfl,x,rfl,rfl,hl,hd,hs⟩
     · exact absurd h hm0
     · exact⟨x,_,_,_,_,hl,⟨HZ.out,HY.out,hs,HRD.out,HON.out,hd,rfl,hqy,hgl⟩⟩
   · have HOK:Hid (qfb 5 N (-1)=true):=hI_ (by
      unfold qfb;rw[qak.2 (show 1≤(N:Int)∧(N:Int)≤6 by omega)];rfl)
     go_wp2_with fail
     refine(qdu HOK w4).mono ?_;rintro e w5 ⟨uF,uL,uA,uN,F,G,rfl,f1,f2,f3,f4,f5,f6,b4⟩;have HS5:=hI_ (qno (b:= -1) f1 f2 f3 f4 f5 f6);obtain⟨A1,c1,rfl⟩:=f1.rn.sl;obtain⟨A2,c2,rfl⟩:=f3.rn.sl;obtain⟨A3,c3,rfl⟩:=f5.sl_;obtain⟨A4,c4,rfl⟩:=f6.sl_;have HB4:=hI_ b4;have hy5:=(b4.block _ (qai HY.out)).trans HY.out;obtain⟨z0,z1,z2,z3,z4,z5,zf⟩:=qaa hy5;have HY5:=hI_ hy5;clear b4 f1 f2 f3 f4 f5 f6 y0 hy5;go_wp2_with fail
     go_meet;refine⟨qjG 5 (-1) N,.slice A1 N c1,.slice A3 0 c3,.slice A2 N c2,.slice A4 0 c4,by simp[qjG],?_⟩;have hgy:g<y:=a_;exact⟨(qcN a_ _ _ _ _ _ _).trans ((HB4.out.block _ (qai HZ.out)).trans HZ.out),qas (i:=5) (qas (i:=4) (qas (i:=3) (qas (i:=2) (qas (i:=1) (qas (i:=0) HY5.out _) _) _) _) _) _,
      HS5.out.set6 HY5.out _ _ _ _ _ _,qcw (HRD.out.below HB4.out) hgy _ _ _ _ _ _,qbZ (HON.out.thenB HB4.out) a_ _ _ _ _ _ _,qmk HOK.out,rfl,hqy,hgl⟩
  case rest=>
   obtain⟨x,uF,uL,uA,uN,hxn,hW⟩:=hcut;obtain⟨w5,rfl⟩:∃ W,W=wc:=⟨_,rfl⟩
   clear y0 HZ HY HX HRD HON HBB hrd hm6;have HW5:=hI_ hW;have HXN:=hI_ hxn;clear hxn hW;go_wp2_with fail
   refine(qan g (P+20) 7 w5 HW5.out.r a_ a_ a_).mono ?_;rintro e w6 ⟨k,rfl,k1,k2,r6,o6⟩;have HW6:=hI_ (HW5.out.only o6 r6);clear r6 o6;go_wp2_with fail
   go_loopw [7] (fun i wr=>∃ (x:Wd) (uF uL uA uN:Value) (i':Nat),i=.int .i64 i'∧(i':Int)≤k∧x.feeds.length=N∧qg6 g (P+21+13*i') w w.heap.size y x uF uL uA uN wr) (fun i _=>(k-intOf i).toNat)
   case atStart=>exact⟨x,uF,uL,uA,uN,0,rfl,a_,HXN.out,HW6.out.mono a_⟩
   case round=>
    obtain⟨x,uF,uL,uA,uN,i,rfl,hik,hxn,hW⟩:=hrel;obtain⟨⟨A1,c1,rfl⟩,⟨A2,c2,rfl⟩,⟨A3,c3,rfl⟩,⟨A4,c4,rfl⟩⟩:=hW.s.sl;have HW:=hI_ hW;have HXN:=hI_ hxn;clear hxn;by_cases hlt:(i:Int)<k
    · have y0:=qaa hW.b;have hyl:=qai hW.b;clear hW;go_wp2_with fail
      go_region_with
       (first
         |(go_at_call 97;refine(qc4 g (P+21+13*i) _ (HW.out.r.below i_) a_).mono ?_;rintro e w8 ⟨t,rfl,ht,r8,o8⟩
           have HW8:=hI_ (HW.out.only ((qbb.of_below i_).trans o8) r8);have t0:=qaa HW8.out.b;clear r8 o8)
         |(go_at_call 117;refine(qir x t _ _ _ _ w8 HW8.out.s (HW8.out.d.v.wi.sml a_) HW8.out.d.v.wi.n1 (fun s hs=>Nat.le_trans (HW8.out.d.v.wi.txt s hs) s_)).mono ?_;rintro e w9 ⟨vF',vL',vA',vN',rfl,hs9,hb9⟩
           obtain⟨x',HX'⟩:∃ x',Hid (qd1 x t=x'):=⟨_,hI_ rfl⟩
           rw[HX'.out] at hs9;rw[HX'.out];obtain⟨⟨B1,d1,rfl⟩,⟨B2,d2,rfl⟩,⟨B3,d3,rfl⟩,⟨B4,d4,rfl⟩⟩:=hs9.sl;have HS9:=hI_ hs9;have HB9:=hI_ hb9;obtain⟨s0,s1,s2,s3,s4,s5,sf⟩:=qaa (HW8.out.below hb9).b;clear hs9 hb9 t0 y0))
      all_goals
       go_wp2
       go_roundw
       case rel=>exact⟨x',_,_,_,_,i+1,t_,a_,by rw[←HX'.out,qnW];exact HXN.out,(HW8.out.put HB9.out HS9.out (by rw[←HX'.out];exact HW8.out.d.grow t)).mono a_⟩
       case measure=>simp[intOf];omega
    · clear hW;go_wp2_with fail
      refine(qan g (P+21+13*i) 8 _ HW.out.r a_ a_ a_).mono ?_;rintro e w7 ⟨k',rfl,k'1,k'2,r7,o7⟩;have HW7:=hI_ (HW.out.only o7 r7);clear r7 o7;have hN0:(1:Int)≤(N:Int):=a_;have hNm:(N:Int)≤1000000:=a_;go_wp2_with fail
      go_loopw [8] (fun i wr=>∃ (x:Wd) (uF uL uA uN:Value) (i':Nat),i=.int .i64 i'∧(i':Int)≤k'∧x.feeds.length=N∧qg6 g (P+120+2*i') w w.heap.size y x uF uL uA uN wr) (fun i _=>(k'-intOf i).toNat)
      case atStart=>exact⟨x,_,_,_,_,0,rfl,a_,HXN.out,HW7.out.mono a_⟩
      case round=>
       obtain⟨x,uF,uL,uA,uN,i',rfl,hik',hxn,hW⟩:=hrel;obtain⟨⟨A1,c1,rfl⟩,⟨A2,c2,rfl⟩,⟨A3,c3,rfl⟩,⟨A4,c4,rfl⟩⟩:=hW.s.sl;clear HW HXN HW7 HW6 HW5 hik hlt;have HW:=hI_ hW;have HXN:=hI_ hxn;clear hxn;by_cases hlt:(i':Int)<k'
       · have y0:=qaa hW.b;have hyl:=qai hW.b;clear hW;go_wp2_with fail
         go_region_with
          (first
            |(have hq8:=HW8.out.r;go_at_call 49;refine(qan g (P+120+2*i'+1) N _ hq8 hN0 hNm a_).mono ?_;rintro e w9 ⟨u,rfl,hu1,hu2,r9,o9⟩
              have HW9:=hI_ (HW8.out.only o9 r9);have v0:=qaa HW9.out.b;clear r9 o9 hq8)
            |(go_at_call 49;refine(qan g (P+120+2*i') N _ (HW.out.r.below i_) hN0 hNm a_).mono ?_;rintro e w8 ⟨t,rfl,ht1,ht2,r8,o8⟩
              have HW8:=hI_ (HW.out.only ((qbb.of_below i_).trans o8) r8);have t0:=qaa HW8.out.b;clear r8 o8)
            |(go_at_call 118;refine(qf2 x t u true _ _ _ _ w9 HW9.out.s (HW9.out.d.v.wi.sml a_)).mono ?_;rintro e wa ⟨vF',vL',vA',vN',rfl,hs9,hb9⟩
              obtain⟨x',HX'⟩:∃ x',Hid (qeh x t u true=x'):=⟨_,hI_ rfl⟩
              rw[HX'.out] at hs9;rw[HX'.out];obtain⟨⟨B1,d1,rfl⟩,⟨B2,d2,rfl⟩,⟨B3,d3,rfl⟩,⟨B4,d4,rfl⟩⟩:=hs9.sl;have HS9:=hI_ hs9;have HB9:=hI_ hb9;obtain⟨s0,s1,s2,s3,s4,s5,sf⟩:=qaa (HW9.out.below hb9).b;clear hs9 hb9 t0 y0 v0))
         all_goals
          go_wp2
          go_roundw
          case rel=>exact⟨x',_,_,_,_,i'+1,t_,a_,by rw[←HX'.out,qnZ];exact HXN.out,(HW9.out.put HB9.out HS9.out (by rw[←HX'.out];exact HW9.out.d.turn t u true)).mono a_⟩
          case measure=>simp[intOf];omega
       · have y0:=qaa hW.b;obtain⟨z0,z1,z2,z3,z4,z5,zf⟩:=qaa hW.z;have HRET:=hI_ (hW.mono (P':=P+200) a_).ret;clear hW;go_wp2_with fail
         refine bodyPost_ret (v:=.agg #[.int .i64 x.sec,.int .i64 x.bad,.slice A1 x.feeds.length c1,.slice A2 x.links.length c2,.slice A3 x.asked.length c3,.slice A4 x.net.length c4]) (by simp[results,Tryz.results62,go_sem,z0,z1,z2,z3,z4,z5]) rfl HRET.out
end Go.Proofs.YtekaaekpdebloaaGreatDoor
namespace Go.Proofs.YtekaaekpdebloaaGreatDoor
open Go.RowKit

def qhY(g P:Nat)(w:World)(e:Ending)(w':World):Prop:=∃ x uF uL uA uN,e=.returned (.agg #[.int .i64 x.sec,.int .i64 x.bad,uF,uL,uA,uN])∧qhP x∧WdS w' x uF uL uA uN∧Rdr w' g P∧qbb g w w'
theorem qi4.ret{g P q y:Nat}{w wr:World}{x:Wd}{vF vL vA vN:Value}(h:qi4 g P w q y x vF vL vA vN wr):qhY g P w (.returned (.agg #[.int .i64 x.sec,.int .i64 x.bad,vF,vL,vA,vN])) ((((((wr.setCell ⟨q,0,none⟩ (.int .i64 x.sec)).setCell ⟨q,1,none⟩ (.int .i64 x.bad)).setCell ⟨q,2,none⟩ vF).setCell ⟨q,3,none⟩ vL).setCell ⟨q,4,none⟩ vA).setCell ⟨q,5,none⟩ vN):=
 ⟨x,_,_,_,_,rfl,h.d,h.s.set6 h.z _ _ _ _ _ _,qcw h.r h.hg _ _ _ _ _ _,qbZ h.o (by have:=h.hq;omega) _ _ _ _ _ _⟩
theorem qlF{w:World}{g o:Nat}(x0 x1 x2 x3 x4 x5:Value):w.grownBy ((((((w.setCell ⟨g,o,none⟩ x0).setCell ⟨g,o+1,none⟩ x1).setCell ⟨g,o+2,none⟩ x2).setCell ⟨g,o+3,none⟩ x3).setCell ⟨g,o+4,none⟩ x4).setCell ⟨g,o+5,none⟩ x5) (some g):=
 qat (qat (qat (qat (qat (qaR _ _ _) (qaR _ _ _)) (qaR _ _ _)) (qaR _ _ _)) (qaR _ _ _)) (qaR _ _ _)
theorem qni{w:World}{k:Nat}(h:w.heap[k]? =some (.cells #[.int .i64 1,.int .i64 2] 3 (0,0))):Stb LP (fun w=>RI w (.slice (some ⟨k,0,none⟩) 2 2) [1,2]) w:=by
 intro w' hk;have h':=(hk.2 k _ _ _ h e_).trans h;refine⟨_,_,rfl,⟨k_,fun h=>aj_⟩,s_,fun _=>⟨k,0,rfl,qai h',fun j hj=> ?_⟩⟩;have hj':j=0∨j=1:=by simp at hj;omega
 rcases hj' with rfl|rfl
 · exact cell_of_row _ _ 0 _ _ _ h'
 · exact cell_of_row _ _ 1 _ _ _ h'
section
variable {g P P' q y B n cap gr:Nat} {w wr w2:World} {x:Wd} {vF vL vA vN:Value}
theorem WrW.retw(h:WrW g P w q y B x vF vL vA vN wr):qi4 g P w q y x vF vL vA vN wr:=⟨h.z,h.b,h.c.s,h.r,h.o,h.d.drawn,h.hq,h.hg⟩
theorem WrW.ask(h:WrW g P w q y B x vF vL (.slice (some ⟨gr,0,none⟩) n cap) vN wr){j:Nat}{l:List (Int×Int)}{u:Value}(hj:j<x.asked.length)(hu:Stb LQ (fun w=>RP w u l) wr):
 qi4 g P w q y {x with asked:=x.asked.set j l} vF vL (.slice (some ⟨gr,0,none⟩) n cap) vN (wr.setCell ⟨gr,j,none⟩ u):=by
 obtain⟨F,h1,_⟩:=h.c.asked;have hlt:=h1.lt gr rfl;have hB:=h.hB;have hgq:=h.hg;have hqw:=h.hq;obtain⟨cur,hty⟩:=h1.row0 gr rfl;have hk:qaA LWd wr (wr.setCell ⟨gr,j,none⟩ u):=qaA.set1 hty e_ u;exact⟨(hk.2 q _ _ _ h.z e_).trans h.z,(hk.2 y _ _ _ h.b e_).trans h.b,h.c.putA hj hu,h.r.set (p:=⟨gr,j,none⟩) (by show g<gr;omega) _,h.o.set (p:=⟨gr,j,none⟩) (by show w.heap.size≤gr;omega) _,⟨h.d.drawn.t,fun _=>h.d.z⟩,h.hq,h.hg⟩
theorem WrW.feed(h:WrW g P w q y B x (.slice (some ⟨gr,0,none⟩) n cap) vL vA vN wr){j:Nat}{f:Fd}{vb vh:Value}(hj:j<x.feeds.length)(hf:Stb LB (fun w=>qaU w f vb vh) wr)(hz:qaq f=true→f.hd.len=0→f.hd=Hd.zero):
 qi4 g P w q y {x with feeds:=x.feeds.set j f} (.slice (some ⟨gr,0,none⟩) n cap) vL vA vN
  ((((((wr.setCell ⟨gr,j*6,none⟩ (.int .i64 f.pub)).setCell ⟨gr,j*6+1,none⟩ (.int .i64 f.hd.len)).setCell ⟨gr,j*6+2,none⟩ (.int .i64 f.hd.dg)).setCell ⟨gr,j*6+3,none⟩ (.int .i64 f.hd.sg)).setCell ⟨gr,j*6+4,none⟩ vb).setCell ⟨gr,j*6+5,none⟩ vh):=by
 obtain⟨C,F,h1,_⟩:=h.c.feeds;have hlt:=h1.lt gr rfl;have hB:=h.hB;have hgq:=h.hg;have hqw:=h.hq;obtain⟨cur,hty⟩:=h1.row0 gr rfl;have hk:qaA LWd wr _:=qb1 (o:=j*6) hty e_ (.int .i64 f.pub) (.int .i64 f.hd.len) (.int .i64 f.hd.dg) (.int .i64 f.hd.sg) vb vh;have hg6:wr.grownBy _ (some gr):=qlF (o:=j*6) (.int .i64 f.pub) (.int .i64 f.hd.len) (.int .i64 f.hd.dg) (.int .i64 f.hd.sg) vb vh;refine⟨(hk.2 q _ _ _ h.z e_).trans h.z,(hk.2 y _ _ _ h.b e_).trans h.b,h.c.putF hj hf,h.r.grown hg6 (fun r e=>by cases e;omega),h.o.grown hg6 (fun r e=>by cases e;omega),⟨h.d.drawn.t,fun hv=> ?_⟩,h.hq,h.hg⟩;refine h.d.z.set (hz ?_);have:=((qcq.1 hv).fd j ae_).v;simpa using this
theorem WrW.prf(h:WrW g P w q y B x vF vL vA (.slice (some ⟨gr,0,none⟩) n cap) wr){m:Nat}{l:List Int}{u:Value}(hm:m<x.net.length)(hu:Stb LP (fun w=>RI w u l) wr):
 qi4 g P w q y {x with net:=x.net.set m {x.net[m] with prf:=l}} vF vL vA (.slice (some ⟨gr,0,none⟩) n cap) (wr.setCell ⟨gr,m*6+5,none⟩ u):=by
 obtain⟨F,h1,h2⟩:=h.c.net;have hlt:=h1.lt gr rfl;have hB:=h.hB;have hgq:=h.hg;have hqw:=h.hq;obtain⟨cur,hty⟩:=h1.row0 gr rfl;obtain⟨_,_,he⟩:=h1.rn.sl;obtain rfl:n=x.net.length:=J_;obtain⟨h3,h4⟩:=h1.setAt (t:=m*6+5) a_ u;have kT:∀ T:List TypeId,57 ∉ T→qaA T wr (wr.setCell ⟨gr,m*6+5,none⟩ u):=fun T hT=>qaA.set1 hty hT u;have hk:=kT LWd e_;refine⟨(hk.2 q _ _ _ h.z e_).trans h.z,(hk.2 y _ _ _ h.b e_).trans h.b,?_,h.r.set (p:=⟨gr,m*6+5,none⟩) (by show g<gr;omega) _,h.o.set (p:=⟨gr,m*6+5,none⟩) (by show w.heap.size≤gr;omega) _,⟨fun j hj=> ?_,fun _=>h.d.z⟩,h.hq,h.hg⟩
 · refine WdS.of (h.c.feeds.next (kT LTF e_)).stb ((h.c.links.next (kT LT1 e_) e_).stb e_) (h.c.asked.next (kT LTA e_)).stb ?_;intro w' hk';refine⟨_,by rw[List.length_set];exact(h3.keepT hk' e_).rn,fun j hj=> ?_⟩;have hj':j<x.net.length:=ae_;obtain⟨f0,f1,f2,f3,f4,f5⟩:=h2 j hj';by_cases hjm:j=m
   · subst hjm;simp only[List.getElem_set_self];rw[if_neg a_,if_neg a_,if_neg a_,if_neg a_,if_neg a_,if_pos trivial];exact⟨f0,f1,f2,f3,f4,(hu.next (kT LP e_)) w' (hk'.mono e_)⟩
   · simp only[List.getElem_set_ne (Ne.symm hjm)];rw[if_neg a_,if_neg a_,if_neg a_,if_neg a_,if_neg a_,if_neg a_];exact⟨f0,f1,f2,f3,f4,(f5.next (kT LP e_)) w' (hk'.mono e_)⟩
 · have hj':j<x.net.length:=ae_;by_cases hjm:j=m
   · subst hjm;simp only[List.getElem_set_self];exact h.d.drawn.t j hj'
   · simp only[List.getElem_set_ne (Ne.symm hjm)];exact h.d.drawn.t j hj'
theorem WrW.tail(h:WrW g P w q y B x vF vL (.slice (some ⟨gr,0,none⟩) n cap) vN wr)(hn:0<x.asked.length){v:Value}(hv:v=.slice (some ⟨gr,1,none⟩) (n-1) (cap-1)∨(n=1∧∃ A c,v=.slice A 0 c∧(A=none→c=0)∧c≤maxLen)):
 qi4 g P w q y {x with asked:=x.asked.drop 1} vF vL v vN (wr.setCell ⟨y,4,none⟩ v):=by
 obtain⟨F,h1,h2⟩:=h.c.asked;obtain⟨_,_,he⟩:=h1.rn.sl;obtain rfl:n=x.asked.length:=J_;have ks:∀ T:List TypeId,28 ∉ T→qaA T wr (wr.setCell ⟨y,4,none⟩ v):=fun T hT=>qaA.set (p:=⟨y,4,none⟩) h.b hT v;refine⟨(Below.heap_setCell _ _ _ _ ao_).trans h.z,qas (i:=4) h.b _,?_,h.r.set (p:=⟨y,4,none⟩) h.gy.1 _,h.o.set (p:=⟨y,4,none⟩) h.gy.2 _,⟨h.d.drawn.t,fun _=>h.d.z⟩,h.hq,h.hg⟩;refine WdS.of (h.c.feeds.next (ks LTF e_)).stb ((h.c.links.next (ks LT1 e_) e_).stb e_) ?_ (h.c.net.next (ks LTP e_)).stb;intro w' hk';have h1':=(h1.keepT (ks LTA e_) e_).keepT hk' e_;have h2':∀ j (hj:j<x.asked.length),RP w' (F j) x.asked[j]:=fun j hj=>((h2 j hj).next (ks LQ e_)) w' (hk'.mono e_);refine⟨fun t=>F (t+1),?_,fun j hj=> ?_⟩
 · rw[List.length_drop];rcases hv with rfl|⟨h0,A,c,rfl,ha,hc⟩
   · obtain⟨A',c',he',q1,q2,q3⟩:=h1'.rn;injection he' with e1 e2 e3
     subst e1;subst e3;obtain⟨b,o,hA,hb,hcl⟩:=q3 a_;cases hA;exact⟨_,_,rfl,⟨a_,fun h=>aj_⟩,a_,fun hl=>⟨gr,1,rfl,hb,fun t ht=>by
      have:=hcl (t+1) a_;rw[show 1+t=0+(t+1) by omega];exact this⟩⟩
   · exact⟨A,c,by rw[h0],⟨a_,fun h=>ha h⟩,hc,fun hl=>a_⟩
 · have hj':j+1<x.asked.length:=by simp at hj;omega
   have e:(x.asked.drop 1)[j]'hj=x.asked[j+1]:=by rw[List.getElem_drop];congr 1;omega
   show RP w' (F (j+1)) ((x.asked.drop 1)[j]'hj);rw[e];exact h2' (j+1) hj'
end

theorem WrW.boxL{g P q y B:Nat}{w wr w2:World}{x:Wd}{vF vL vA vN:Value}(h:WrW g P w q y B x vF vL vA vN wr)(hg:wr.grownBy w2 vL.ownBlock):w2.heap[y]? =some (.cells #[.int .i64 x.sec,.int .i64 x.bad,vF,vL,vA,vN] 28 (0,0)):=by
 obtain⟨F,h1,_⟩:=h.c.links;have hk:qaA LWd wr w2:=h1.grew hg e_;exact(hk.2 y _ _ _ h.b e_).trans h.b
theorem WrW.boxN{g P q y B:Nat}{w wr w2:World}{x:Wd}{vF vL vA vN:Value}(h:WrW g P w q y B x vF vL vA vN wr)(hg:wr.grownBy w2 vN.ownBlock):w2.heap[y]? =some (.cells #[.int .i64 x.sec,.int .i64 x.bad,vF,vL,vA,vN] 28 (0,0)):=by
 obtain⟨F,h1,_⟩:=h.c.net;have hk:qaA LWd wr w2:=h1.grew hg e_;exact(hk.2 y _ _ _ h.b e_).trans h.b
theorem qkr{W:World}{a o z:Nat}{u:Value}(h:W.cell? ⟨a,o,none⟩=some u)(hz:a≠z)(i:Nat)(x:Value):(W.setCell ⟨z,i,none⟩ x).cell? ⟨a,o,none⟩=some u:=
 (World.cell?_of_block (Below.heap_setCell W ⟨z,i,none⟩ x a hz)).trans h
theorem qn4{w:World}:Stb LP (fun w=>RI w (.slice none 0 0) ([]:List Int)) w:=fun w' _=>Em.none.r1 w'
theorem qm1{ps:List Pc}{p:Pc}(h:∀ j (hj:j<ps.length),ps[j].txt.size≤maxLen)(hp:p.txt.size≤maxLen):∀ j (hj:j<(ps++[p]).length),(ps++[p])[j].txt.size≤maxLen:=fun j hj=>by
 by_cases hlt:j<ps.length
 · rw[List.getElem_append_left hlt];exact h j hlt
 · rw[List.getElem_append_right a_];simp only[List.getElem_singleton];exact hp
theorem qaW.form{B:Nat}{w:World}{v:Value}{ps:List Pc}(h:qaW B w v ps)(hn:0<ps.length):∃ g cap,v=.slice (some ⟨g,0,none⟩) ps.length cap∧B≤g∧g<w.heap.size:=by
 obtain⟨F,h1,_⟩:=h;exact h1.form hn
theorem qaW.cells_{B g n cap:Nat}{w:World}{ps:List Pc}(h:qaW B w (.slice (some ⟨g,0,none⟩) n cap) ps):∃ F:Nat→Value,(∀ t,t<ps.length*6→w.cell? ⟨g,t,none⟩=some (F t))∧∀ i,w.frozen? ⟨g,i,none⟩=false:=by
 obtain⟨F,h1,h2⟩:=h;obtain⟨_,_,he⟩:=h1.rn.sl;obtain rfl:n=ps.length:=J_;obtain⟨cur,hr⟩:=h1.row0 g rfl;exact⟨F,fun t ht=>(h1.at_ ht).1,fun i=>qgI hr i⟩
theorem qlL{w:World}{g:Nat}{o:Obj}(hg:g<w.heap.size)(h:∀ i,w.frozen? ⟨g,i,none⟩=false):∀ i,(w.alloc o).frozen? ⟨g,i,none⟩=false:=fun i=>
 (((bR_ w.heap.size w).alloc (nr_ _) o).frozen (p:=⟨g,i,none⟩) hg).trans (h i)
theorem qbB.capA{B g n cap:Nat}{w:World}{ls:List (List (Int×Int))}(h:qbB B w (.slice (some ⟨g,0,none⟩) n cap) ls):n≤cap:=by
 obtain⟨F,h1,_⟩:=h;obtain⟨A,c,he,q1,q2,q3⟩:=h1.rn;injection he with e1 e2 e3
 subst e2;subst e3;exact q1.1
theorem qa1.lt_{B:Nat}{w:World}{v:Value}{fs:List Fd}(h:qa1 B w v fs):∀ r,v.ownBlock=some r→B≤r∧r<w.heap.size:=by obtain⟨_,F,h1,_⟩:=h;exact h1.lt
theorem qbB.lt_{B:Nat}{w:World}{v:Value}{ls:List (List (Int×Int))}(h:qbB B w v ls):∀ r,v.ownBlock=some r→B≤r∧r<w.heap.size:=by obtain⟨F,h1,_⟩:=h;exact h1.lt
end Go.Proofs.YtekaaekpdebloaaGreatDoor

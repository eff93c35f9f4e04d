/- Words and walks of the law. -/
import Derived.Test.YtekaaekpdebloaaGreatDoorBA5
set_option linter.unusedVariables false
set_option linter.unusedSimpArgs false
set_option maxHeartbeats 12800000
set_option maxRecDepth 100000
namespace Go.Proofs.YtekaaekpdebloaaGreatDoor
open Go.RowKit

def t1(t:Nat×Nat):Value:=.int .i64 t.1
def t2(t:Nat×Nat):Value:=.int .i64 t.2
def qoq(t:Nat×Nat):List Value:=[t1 t,t2 t]
abbrev OT (B:Nat) (w:World) (v:Value) (l:List (Nat×Nat)):Prop:=O2 t1 t2 B 238 w v l
abbrev RT (w:World) (v:Value) (l:List (Nat×Nat)):Prop:=R2 t1 t2 w v l

theorem qoe{p n s f:Nat}(hc:2*(s:Int)≤(n:Int)-p)(h3:p%(2*s)=0)(HF:Hid (s*2 ^ f=32∧szF p n f s=sz p n))(h1':1≤s)(hn:n≤16):
 ∃ f' s':Nat,Value.int .i64 ((s:Int)*2)=.int .i64 s'∧1≤s'∧s'≤16∧Hid (s'*2 ^ f'=32∧szF p n f' s'=sz p n):=by
 obtain⟨h1,h2⟩:=HF.out;cases f with
 |zero=>omega
 |succ f=>
  have hpow:2*s*2 ^ f=32:=by rw[←h1,Nat.pow_succ,Nat.mul_comm 2 s,Nat.mul_assoc,Nat.mul_comm 2]
  have hlast:2*s≤16:=a_;exact⟨f,2*s,by congr 1;omega,a_,hlast,hI_ ⟨hpow,by rw[←h2,qod ⟨a_,h3⟩]⟩⟩
theorem qeU{p0 p n s f B:Nat}{out:List (Nat×Nat)}{w w1:World}{v1:Value}(hlt:p<n)(hn:n≤16)
 (hown:w1.ownsRow B 238 2 v1 (out.length+1) (out.flatMap qoq++[.int .i64 p,.int .i64 s])) (Hx:Hid (out++qaz p n=qaz p0 n)) (hb:Below B w w1)
 (hs:szF p n f s=sz p n) (hc:¬ (2*s≤n-p∧p%(2*s)=0)):
 ∃ (p':Nat) (out':List (Nat×Nat)),p'≤16+16∧Value.int .i64 ((p:Int)+s)=.int .i64 p'∧w1.ownsRow B 238 2 v1 out'.length (out'.flatMap qoq)∧Hid (out'++qaz p' n=qaz p0 n)∧Below B w w1:=by
 rw[qhG hc] at hs;have hz:=qgf hlt;refine⟨p+s,out++[(p,s)],a_,by congr 1,by simpa[qoq,t1,t2,List.flatMap_append] using hown,hI_ ?_,hb⟩;rw[←Hx.out,qcH hlt hn,List.append_assoc,hs];rfl

theorem qbs(p0 n:Nat)(w:World)(hp:p0≤16)(hn:n≤16):
 Calls Tryz.prog 213 #[.int .i64 p0,.int .i64 n] w fun e w'=>∃ v,e=.returned v∧
  OT w.heap.size w' v (qaz p0 n)∧bB w w':=by
 go_enter Tryz.func213,Tryz.ntmps213
 go_wp2
 go_loopw [0,5] (fun q v wr=>∃ (p:Nat) (out:List (Nat×Nat)),p≤16+16∧q=.int .i64 p∧wr.ownsRow w.heap.size 238 2 v out.length (out.flatMap qoq)∧
  Hid (out++qaz p n=qaz p0 n)∧bB w wr) (fun q _ _=>64-(intOf q).toNat)
 case atStart=>exact⟨p0,[],a_,rfl,World.ownsRow_made w #[] 0 (nr_ _) s_ k_,hI_ k_,(bR_ _ _).alloc (nr_ _) _⟩
 case round=>
  obtain⟨p,out,hpl,rfl,hown,Hx,hb⟩:=hrel;obtain⟨wo,rfl⟩:∃ wo:World,wo=wr:=⟨_,rfl⟩
  by_cases hlt:p<n
  · have hol:=qmb Hx.out;go_wp2
    go_loop [6] (fun q=>∃ f s:Nat,q=.int .i64 s∧1≤s∧s≤16∧Hid (s*2 ^ f=32∧szF p n f s=sz p n)) (fun q=>64-(intOf q).toNat)
    case atStart=>exact⟨5,1,rfl,a_,a_,hI_ ⟨rfl,rfl⟩⟩
    case round=>
     obtain⟨f,s,rfl,h1,h16,HF⟩:=hrel;have em:(p:Int)%(2*(s:Int))=((p%(2*s):Nat):Int):=k_;by_cases h2:2*s≤n-p
     · by_cases h3:p%(2*s)=0
       · have hc3:(p:Int)%(2*(s:Int))=0:=a_;have hc4:2*(s:Int)≤(n:Int)-p:=a_;clear em;go_wp2
         go_round
         case rel=>exact qoe hc4 h3 HF h1 hn
         case measure=>simp[intOf];omega
       · have hc3:((p:Int)%(2*(s:Int))==0)=false:=by rw[em];simp;omega
         have hc4:2*(s:Int)≤(n:Int)-p:=a_;clear em;go_wp2_with (at_builtin;refine qjO hown a_ hb.size rfl rfl rfl rfl ?_;intro v1 w1 hown1 hb1)
         go_roundw
         case rel=>exact qeU hlt hn hown1 Hx (hb.trans hb1) HF.out.2 a_
         case measure=>simp[intOf];omega
     · have hc4:¬ (2*(s:Int)≤(n:Int)-p):=a_;clear em;go_wp2_with (at_builtin;refine qjO hown a_ hb.size rfl rfl rfl rfl ?_;intro v1 w1 hown1 hb1)
       go_roundw
       case rel=>exact qeU hlt hn hown1 Hx (hb.trans hb1) HF.out.2 a_
       case measure=>simp[intOf];omega
  · go_wp2
    go_ret;refine⟨u5,rfl,?_,hb⟩;have:=Hx.out;rw[qd0 a_,List.append_nil] at this;rw[←this];exact hown
theorem ql5(l:List Int)(hd:qb7 l=true):∀ (k s:Nat) (s0 z0:Int) (v:Value) (w:World),s0=s→z0=((2 ^ k:Nat):Int)→k≤4→s+2 ^ k≤l.length→RI w v l→
 gV 215 #[.agg #[.int .i64 s0,.int .i64 z0],v] w (.int .i64 (qbU l k s)):=by
 intro k;induction k with
 |zero=>
  intro s s0 z0 v w h0 hz _ hs hv;subst h0;obtain rfl:z0=1:=by simpa using hz
  clear hz;have hm:=hv.len;obtain⟨A,c,rfl,h1,h2,h3⟩:=hv;unfold maxLen at hm;obtain⟨b,o,rfl,hb,hc⟩:=h3 a_;have hcell:=hc s a_;have hs1:s<l.length:=a_;clear hc h3;go_enter Tryz.func215,Tryz.ntmps215
  go_wp2
  go_ret;exact⟨qfp (by simp[qbU,hs1]),(bR_ _ _).alloc (nr_ _) _⟩
 |succ k ih=>
  intro s s0 z0 v w h0 hz hk hs hv;subst h0;have hm:=hv.len;unfold maxLen at hm;have hz':z0=2*((2 ^ k:Nat):Int):=by rw[hz,Nat.pow_succ];omega
  have hy1:1≤2 ^ k:=Nat.one_le_two_pow;have hs2:s+2 ^ k+2 ^ k≤l.length:=by rw[Nat.pow_succ] at hs;omega
  have D1:=hI_ (qdr hd k s a_);have D2:=hI_ (qdr hd k (s+2 ^ k) a_);have IH:Hid (∀ (s:Nat) (s0 z0:Int) (v:Value) (w:World),s0=s→z0=((2 ^ k:Nat):Int)→k≤4→s+2 ^ k≤l.length→RI w v l→
    Calls Tryz.prog 215 #[.agg #[.int .i64 s0,.int .i64 z0],v] w fun e w'=>e=.returned (.int .i64 (qbU l k s))∧bB w w'):=ih
  clear ih hz hs;have HY:Hid ((2 ^ k:Nat)=2 ^ k):=rfl;generalize hy:2 ^ k=y at hz' hy1 hs2
  have HK:=hI_ hy;clear hy;subst hz';have hq:2*(y:Int)/2=y:=a_;go_enter Tryz.func215,Tryz.ntmps215
  go_wp2
  have c0:(w.alloc (.cells #[.int .i64 s,.int .i64 (2*(y:Int))] 238)).cell? ⟨w.heap.size,0,none⟩=some (.int .i64 s):=cell_of_row _ _ 0 _ _ _ (heap_alloc_new w _);have hW:w.heap.size<(w.alloc (.cells #[.int .i64 s,.int .i64 (2*(y:Int))] 238)).heap.size:=k_;have hv':=hv.alloc (.cells #[.int .i64 s,.int .i64 (2*(y:Int))] 238);have hbW:=(bR_ w.heap.size w).alloc (nr_ _) (.cells #[.int .i64 s,.int .i64 (2*(y:Int))] 238);generalize w.alloc (.cells #[.int .i64 s,.int .i64 (2*(y:Int))] 238)=W at*
  have hup:=qap W;refine qoH ?_;repeat(go_big_quiet_step (first
    |(go_at_call_of 215 (Value.agg #[.int .i64 s,.int .i64 y]);refine qal (IH.out s _ _ _ _ rfl (by rw[HK.out]) a_ (by rw[HK.out];omega) (hv'.up _)))
    |(go_at_call 215;refine qal (IH.out (s+y) _ _ _ _ k_ (by rw[HK.out]) a_ (by rw[HK.out];omega) (hv'.up _)))
    |(go_at_call 260;refine qaj (qbf _ _ _ D1.out (by rw[←HK.out];exact D2.out)))))
  refine wq_ fun w1 hb1=>?_;clear hup;go_wp2
  go_ret;refine⟨qfp ?_,hbW.trans (hb1.mono a_)⟩;rw[←HK.out];rfl
theorem qca(l:List Int)(v:Value)(w:World)(hv:RI w v l):
 gS 259 #[v] w (.bool (qb7 l)):=by
 have hm:=hv.len;obtain⟨A,c,rfl,h1,h2,h3⟩:=hv;unfold maxLen at hm;go_enter Tryz.func259,Tryz.ntmps259
 go_wp2
 go_loop [7] (fun i=>∃ k:Nat,k≤l.length∧i=.int .i64 k∧Hid (qb7 (l.take k)=true)) (fun i=>l.length-(intOf i).toNat)
 case atStart=>exact⟨0,Nat.zero_le _,rfl,hI_ rfl⟩
 case round=>
  obtain⟨k,hk,rfl,Hd⟩:=hrel;by_cases hlt:k<l.length
  · obtain⟨b,o,rfl,hb,hc⟩:=h3 a_;have hcell:=hc k hlt;clear hc h3;cases hx:dig l[k]
    · have HX:=hI_ hx;go_wp2_with (go_at_call 217;refine(qbX _ _).mono ?_;rintro e w' ⟨rfl,rfl⟩)
      go_ret;exact⟨qaM (qjg hlt HX.out).symm,rfl⟩
    · have HX:=hI_ hx;go_wp2_with (go_at_call 217;refine(qbX _ _).mono ?_;rintro e w' ⟨rfl,rfl⟩)
      go_round
      case rel=>exact⟨k+1,a_,t_,hI_ (qfM hlt Hd.out HX.out)⟩
      case measure=>simp[intOf];omega
  · go_wp2
    go_ret;exact⟨qaM (qhi a_ Hd.out).symm,rfl⟩
theorem qdD(l:List Int)(v:Value)(w:World)(hv:RI w v l):
 gS 274 #[v] w (.bool (qb7 l)):=by
 have hm:=hv.len;obtain⟨A,c,rfl,h1,h2,h3⟩:=hv;unfold maxLen at hm;go_enter Tryz.func274,Tryz.ntmps274
 go_wp2
 go_loop [3] (fun i=>∃ k:Nat,k≤l.length∧i=.int .i64 k∧Hid (qb7 (l.take k)=true)) (fun i=>l.length-(intOf i).toNat)
 case atStart=>exact⟨0,Nat.zero_le _,rfl,hI_ rfl⟩
 case round=>
  obtain⟨k,hk,rfl,Hd⟩:=hrel;by_cases hlt:k<l.length
  · obtain⟨b,o,rfl,hb,hc⟩:=h3 a_;have hcell:=hc k hlt;clear hc h3;cases hx:dig l[k]
    · have HX:=hI_ hx;go_wp2_with (go_at_call 201;refine(qbF _ _).mono ?_;rintro e w' ⟨rfl,rfl⟩)
      go_ret;exact⟨qaM (qjg hlt HX.out).symm,rfl⟩
    · have HX:=hI_ hx;go_wp2_with (go_at_call 201;refine(qbF _ _).mono ?_;rintro e w' ⟨rfl,rfl⟩)
      go_round
      case rel=>exact⟨k+1,a_,t_,hI_ (qfM hlt Hd.out HX.out)⟩
      case measure=>simp[intOf];omega
  · go_wp2
    go_ret;exact⟨qaM (qhi a_ Hd.out).symm,rfl⟩
theorem qco(l:List Int)(v:Value)(w:World)(hv:RI w v l):
 gS 203 #[v] w (.bool (qaE l)):=by
 have hm:=hv.len;obtain⟨A,c,rfl,h1,h2,h3⟩:=hv;unfold maxLen at hm;go_enter Tryz.func203,Tryz.ntmps203
 go_wp2
 go_loop [3] (fun i=>∃ k:Nat,k≤l.length∧i=.int .i64 k∧Hid (qb7 (l.take k)=true)) (fun i=>l.length-(intOf i).toNat)
 case atStart=>exact⟨0,Nat.zero_le _,rfl,hI_ rfl⟩
 case round=>
  obtain⟨k,hk,rfl,Hd⟩:=hrel;by_cases hlt:k<l.length
  · obtain⟨b,o,rfl,hb,hc⟩:=h3 a_;have hcell:=hc k hlt;clear hc h3;cases hx:dig l[k]
    · have HX:=hI_ hx;go_wp2_with (go_at_call 201;refine(qbF _ _).mono ?_;rintro e w' ⟨rfl,rfl⟩)
      go_ret;exact⟨qaM (by simp[qaE,qjg hlt HX.out]),rfl⟩
    · have HX:=hI_ hx;go_wp2_with (go_at_call 201;refine(qbF _ _).mono ?_;rintro e w' ⟨rfl,rfl⟩)
      go_round
      case rel=>exact⟨k+1,a_,t_,hI_ (qfM hlt Hd.out HX.out)⟩
      case measure=>simp[intOf];omega
  · go_wp2
    go_ret;exact⟨qaM (by simp[qaE,qhi a_ Hd.out];try omega),rfl⟩
theorem qbr(l:List Int)(v:Value)(w:World)(hv:RI w v l):
 gS 212 #[v] w (.bool (qaE l)):=by
 have hm:=hv.len;have hv':=hv;obtain⟨A,c,rfl,h1,h2,h3⟩:=hv;unfold maxLen at hm;clear h3;by_cases h16:l.length≤16
 · have h16':decide ((l.length:Int)≤16)=true:=by simp;omega
   go_enter Tryz.func212,Tryz.ntmps212
   go_wp2_with (go_at_call 259;refine(qca l _ _ hv').mono ?_;rintro e w' ⟨rfl,rfl⟩)
   go_ret;exact⟨qaM (by simp[qaE,h16]),rfl⟩
 · have h16':decide ((l.length:Int)≤16)=false:=by simp;omega
   go_enter Tryz.func212,Tryz.ntmps212
   go_wp2_with (go_at_call 259;refine(qca l _ _ hv').mono ?_;rintro e w' ⟨rfl,rfl⟩)
   go_ret;exact⟨qaM (by simp[qaE,h16]),rfl⟩

theorem qcl(n:Int)(l:List Int)(v:Value)(w:World)(hn:dig n=true)(hl:qb7 l=true)(hv:RI w v l):
 gS 219 #[.int .i64 n,v] w (.int .i64 (qdI n l)):=by
 have hm:=hv.len;obtain⟨A,c,rfl,h1,h2,h3⟩:=hv;unfold maxLen at hm;have HN:=hI_ hn;clear hn;have HL:=hI_ hl;clear hl;go_enter Tryz.func219,Tryz.ntmps219
 go_wp2
 go_loop [0,9] (fun t i=>∃ k:Nat,k≤l.length∧i=.int .i64 k∧t=.int .i64 (qdI n (l.take k))) (fun _ i=>l.length-(intOf i).toNat)
 case atStart=>exact⟨0,Nat.zero_le _,rfl,rfl⟩
 case round=>
  obtain⟨k,hk,rfl,rfl⟩:=hrel;by_cases hlt:k<l.length
  · obtain⟨b,o,rfl,hb,hc⟩:=h3 a_;have hcell:=hc k hlt;clear hc h3;have HS:=hI_ (qbz hlt);go_wp2_with (go_at_call 260;refine(qbf _ _ _ (qhm HN.out _) (qdc HL.out hlt)).mono ?_;rintro e w' ⟨rfl,rfl⟩)
    go_round
    case rel=>exact⟨k+1,a_,t_,by rw[HS.out,qfN]⟩
    case measure=>simp[intOf];omega
  · go_wp2
    go_ret;exact⟨qfp aX_,rfl⟩
theorem qgQ(n:Int)(l:List Int)(v:Value)(w:World)(hn:dig n=true)(hl:qb7 l=true)(hv:RI w v l):
 gS 204 #[.int .i64 n,v] w (.int .i64 (qdI n l)):=by
 have hm:=hv.len;obtain⟨A,c,rfl,h1,h2,h3⟩:=hv;unfold maxLen at hm;have HN:=hI_ hn;clear hn;have HL:=hI_ hl;clear hl;go_enter Tryz.func204,Tryz.ntmps204
 go_wp2
 go_loop [5,6] (fun t i=>∃ k:Nat,k≤l.length∧i=.int .i64 k∧t=.int .i64 (qdI n (l.take k))) (fun _ i=>l.length-(intOf i).toNat)
 case atStart=>exact⟨0,Nat.zero_le _,rfl,rfl⟩
 case round=>
  obtain⟨k,hk,rfl,rfl⟩:=hrel;by_cases hlt:k<l.length
  · obtain⟨b,o,rfl,hb,hc⟩:=h3 a_;have hcell:=hc k hlt;clear hc h3;have HS:=hI_ (qbz hlt);go_wp2_with (go_at_call 256;refine(qcn _ _ _ (qhm HN.out _) (qdc HL.out hlt)).mono ?_;rintro e w' ⟨rfl,rfl⟩)
    go_round
    case rel=>exact⟨k+1,a_,t_,by rw[HS.out,qfN]⟩
    case measure=>simp[intOf];omega
  · go_wp2
    go_ret;exact⟨qfp aX_,rfl⟩
theorem qdS(l:List Int)(v:Value)(w:World)(hv:RI w v l)(hl:l.length≤100000000000):
 Calls Tryz.prog 104 #[v] w fun e w'=>∃ v',e=.returned v'∧O1 (Value.int .i64) w.heap.size 3 w' v' l∧bB w w':=by
 have hv':=hv;obtain⟨A,c,rfl,h1,h2,h3⟩:=hv;clear h3;go_enter Tryz.func104,Tryz.ntmps104
 go_wp2_with (first
  |(at_make;refine qlY rfl rfl rfl rfl a_ ?_;intro v1 w1 hown1 hb1;have hr:=hv'.below hb1)
  |(at_builtin;refine qdx hown1 hr n_ hb1.size rfl rfl rfl rfl ?_;intro v2 w2 hown2 hb2))
 go_ret;exact⟨v2,rfl,by simpa using hown2,hb1.trans hb2⟩

theorem ql6(l:List Int)(hd:qb7 l=true)(ts:List (Nat×Nat))(tv v:Value)(w:World)(hts:∀ t ∈ ts,t.1+t.2≤l.length∧2 ^ t.2.log2=t.2∧t.2.log2≤4)(hl:ts.length≤40)
 (ht:RT w tv ts) (hv:RI w v l):
 Calls Tryz.prog 258 #[tv,v] w fun e w'=>∃ v',e=.returned v'∧O1 (Value.int .i64) w.heap.size 3 w' v' (ts.map (qdK l))∧bB w w':=by
 have HD:=hI_ hd;clear hd;have HT:=hI_ hts;clear hts;have ht0:=hI_ ht;obtain⟨A,c,rfl,h1,h2,h3⟩:=ht;clear h3;have HV:=hI_ hv;clear hv;go_enter Tryz.func258,Tryz.ntmps258
 go_wp2
 go_loopw [5,11] (fun out i wr=>∃ k:Nat,k≤ts.length∧i=.int .i64 k∧O1 (Value.int .i64) w.heap.size 3 wr out ((ts.take k).map (qdK l))∧bB w wr) (fun _ i _=>ts.length-(intOf i).toNat)
 case atStart=>exact⟨0,Nat.zero_le _,rfl,O1.made _ _ _,(bR_ _ _).alloc (nr_ _) _⟩
 case round=>
  obtain⟨k,hk,rfl,hown,hb⟩:=hrel;by_cases hlt:k<ts.length
  · obtain⟨A',c',hA,_,_,hc⟩:=ht0.out.below hb;cases hA;obtain⟨b,o,rfl,hbs,hc⟩:=hc a_;obtain⟨hc1,hc2⟩:=hc k hlt;clear hc;obtain⟨g1,g2,g3⟩:=HT.out _ (List.getElem_mem hlt);have HG:=hI_ g2;clear g2;simp only[t1,t2] at hc1 hc2;have HS:=hI_ (qbz hlt);have hv2:=(HV.out.below hb).alloc (.cells #[.int .i64 (ts[k].1:Int),.int .i64 (ts[k].2:Int)] 238);have hown1:=hown.alloc (.cells #[.int .i64 (ts[k].1:Int),.int .i64 (ts[k].2:Int)] 238);have hlk:((ts.take k).map (qdK l)).length=k:=by simp;omega
    have HLK:=hI_ hlk;clear hlk;have hba:=qab hb (.cells #[.int .i64 (ts[k].1:Int),.int .i64 (ts[k].2:Int)] 238);go_wp2_with (first
     |(go_at_call 215;refine(ql5 l HD.out ts[k].2.log2 ts[k].1 _ _ _ _ rfl (by rw[HG.out]) g3 (by rw[HG.out];exact g1) hv2).mono ?_;rintro e w1 ⟨rfl,hb1⟩;have hown2:=hown1.below hb1;have hb2:=hba.trans (hb1.mono hba.size))
     |(at_builtin;refine qcf hown2 (by rw[HLK.out];omega) hb2.size rfl rfl rfl rfl ?_;intro v3 w3 hown3 hb3))
    go_roundw
    case rel=>exact⟨k+1,a_,t_,by rw[HS.out,List.map_append];exact hown3,hb2.trans hb3⟩
    case measure=>simp[intOf];omega
  · go_wp2
    go_ret;exact⟨_,rfl,aB_,hb⟩

theorem qhU(l:List Int)(v:Value)(w:World)(hv:RI w v l)(hl:qaE l=true):
 Calls Tryz.prog 220 #[v] w fun e w'=>∃ v',e=.returned v'∧O1 (Value.int .i64) w.heap.size 3 w' v' (qdX l)∧bB w w':=by
 obtain⟨h16,hd⟩:=qaJ.1 hl;have HL:=hI_ hl;clear hl;have HD:=hI_ hd;clear hd;have HV:=hI_ hv;obtain⟨A,c,rfl,h1,h2,h3⟩:=hv;clear h3;go_enter Tryz.func220,Tryz.ntmps220
 go_wp2_with (first
  |(go_at_call 212;refine(qbr l _ _ HV.out).mono ?_;rw[HL.out];rintro e w' ⟨rfl,rfl⟩)
  |(go_at_call 213;refine(qbs 0 l.length _ a_ h16).mono ?_;rintro e w1 ⟨v1,rfl,ho1,hb1⟩)
  |(go_at_call 258;refine(ql6 l HD.out (qaz 0 l.length) _ _ _ (qcW l.length a_ 0 a_) (by have:=qaY 0 l.length;omega) ho1.r2 (HV.out.below hb1)).mono ?_;rintro e w2 ⟨v2,rfl,ho2,hb2⟩))
 go_ret;exact⟨v2,rfl,ho2.mono hb1.size,qa3 hb1 hb2⟩
theorem qdN(l:List Int)(v:Value)(w:World)(hv:RI w v l):
 gV 151 #[v] w (.int .i64 (qbN l)):=by
 cases hl:qaE l
 · have ht:qbN l= -1:=by unfold qbN;rw[hl];rfl
   have HT:=hI_ ht;clear ht;have HL:=hI_ hl;clear hl;have HV:=hI_ hv;obtain⟨A,c,rfl,h1,h2,h3⟩:=hv;clear h3;go_enter Tryz.func151,Tryz.ntmps151
   go_wp2_with (go_at_call 212;refine(qbr l _ _ HV.out).mono ?_;rw[HL.out];rintro e w' ⟨rfl,rfl⟩)
   go_ret;exact⟨qfp HT.out.symm,bR_ _ _⟩
 · have ht:qbN l=qdI l.length (qdX l):=by unfold qbN;rw[hl];rfl
   have HT:=hI_ ht;clear ht;obtain⟨h16,hd⟩:=qaJ.1 hl;have HL:=hI_ hl;clear hl;have HP:=hI_ (qiH hd h16);have hd16:dig (l.length:Int)=true:=qa4.2 a_;have HV:=hI_ hv;obtain⟨A,c,rfl,h1,h2,h3⟩:=hv;clear h3 hd;have HDG:=hI_ hd16;clear hd16;go_enter Tryz.func151,Tryz.ntmps151
   go_wp2_with (first
    |(go_at_call 212;refine(qbr l _ _ HV.out).mono ?_;rw[HL.out];rintro e w' ⟨rfl,rfl⟩)
    |(go_at_call 220;refine(qhU l _ _ HV.out HL.out).mono ?_;rintro e w1 ⟨v1,rfl,ho1,hb1⟩)
    |(go_at_call 219;refine(qcl _ _ _ _ HDG.out HP.out ho1.r1).mono ?_;rintro e w2 ⟨rfl,rfl⟩))
   go_ret;exact⟨qfp HT.out.symm,hb1⟩
theorem qof{p n s f:Nat}(hc:p+2*s≤n)(h3:p%(2*s)=0)(HF:Hid (s*2 ^ f=32∧szF p n f s=sz p n))(h1':1≤s)(hn:n≤16):
 ∃ f' s':Nat,Value.int .i64 (2*(s:Int))=.int .i64 s'∧1≤s'∧s'≤16∧Hid (s'*2 ^ f'=32∧szF p n f' s'=sz p n):=by
 obtain⟨f',s',h,r⟩:=qoe a_ h3 HF h1' hn;exact⟨f',s',by rw[←h];congr 1;omega,r⟩
theorem qb3(p n:Nat)(w:World)(hp:p≤16)(hn:n≤16):
 gS 208 #[.int .i64 p,.int .i64 n] w (.int .i64 (sz p n)):=by
 go_enter Tryz.func208,Tryz.ntmps208
 go_wp2
 go_loop [5] (fun q=>∃ f s:Nat,q=.int .i64 s∧1≤s∧s≤16∧Hid (s*2 ^ f=32∧szF p n f s=sz p n)) (fun q=>64-(intOf q).toNat)
 case atStart=>exact⟨5,1,rfl,a_,a_,hI_ ⟨rfl,rfl⟩⟩
 case round=>
  obtain⟨f,s,rfl,h1,h16,HF⟩:=hrel;have em:(p:Int)%(2*(s:Int))=((p%(2*s):Nat):Int):=k_;by_cases h3:p%(2*s)=0
  · have hc3:(p:Int)%(2*(s:Int))=0:=a_;clear em;by_cases h2:p+2*s≤n
    · have hc4:(p:Int)+2*(s:Int)≤(n:Int):=a_;go_wp2
      go_round
      case rel=>exact qof h2 h3 HF h1 hn
      case measure=>simp[intOf];omega
    · have hc4:¬ ((p:Int)+2*(s:Int)≤(n:Int)):=a_;go_wp2
      go_ret;exact⟨qfp (by rw[←HF.out.2,qhG a_]),rfl⟩
  · have hc3:((p:Int)%(2*(s:Int))==0)=false:=by rw[em];simp;omega
    clear em;go_wp2
    go_ret;exact⟨qfp (by rw[←HF.out.2,qhG a_]),rfl⟩

theorem qfz:∀ (k:Nat) (l:List Int) (v:Value) (w:World),qb7 l=true→k≤4→l.length=2 ^ k→RI w v l→
 gV 207 #[v] w (.int .i64 (qbU l k 0)):=by
 intro k;induction k with
 |zero=>
  intro l v w hd _ hl hv;obtain⟨A,c,rfl,h1,h2,h3⟩:=hv;have hl1:l.length=1:=by simpa using hl
  obtain⟨b,o,rfl,hb,hc⟩:=h3 a_;have hcell:w.cell? ⟨b,o,none⟩=some (.int .i64 (l.getD 0 0)):=by
    rw[List.getD_eq_getElem?_getD,List.getElem?_eq_getElem a_];exact hc 0 a_
  have HH:=hI_ hl1;rw[hl1];clear hc h3 hl hl1 h1;go_enter Tryz.func207,Tryz.ntmps207
  go_wp2
  go_ret;exact⟨qfp p_,bR_ _ _⟩
 |succ k ih=>
  intro l v w hd hk hl hv;have hy1:1≤2 ^ k:=Nat.one_le_two_pow;have hl2:l.length=2*2 ^ k:=by rw[hl,Nat.pow_succ];omega
  have D1:=hI_ (qdr (qcb hd (2 ^ k)) k 0 n_);have D2:=hI_ (qdr (qc0 hd (2 ^ k)) k 0 n_);have T1:=hI_ (qcb hd (2 ^ k));have T2:=hI_ (qc0 hd (2 ^ k));have E:Hid (qbU l (k+1) 0=qbo (qbU (l.take (2 ^ k)) k 0) (qbU (l.drop (2 ^ k)) k 0)):=
    hI_ (by conv=>{lhs;unfold qbU};rw[qcG k 0 a_,qcZ k 0,Nat.add_zero,Nat.zero_add])
  have IH:Hid (∀ (l:List Int) (v:Value) (w:World),qb7 l=true→k≤4→l.length=2 ^ k→RI w v l→
    Calls Tryz.prog 207 #[v] w fun e w'=>e=.returned (.int .i64 (qbU l k 0))∧bB w w'):=ih
  clear ih;obtain⟨A,c,rfl,h1,h2,h3⟩:=id hv;obtain⟨b,o,rfl,hb,_⟩:=h3 a_;have R1':=R1.take hv (m:=2 ^ k) a_;have R2':=R1.drop hv (m:=2 ^ k) a_;have L1:Hid ((l.take (2 ^ k)).length=2 ^ k):=hI_ n_;have L2:Hid ((l.drop (2 ^ k)).length=2 ^ k):=hI_ n_;have hc1:=h1.1;clear hv h3 h1 hd hl;generalize l.take (2 ^ k)=la at*
  generalize l.drop (2 ^ k)=lb at*
  rw[hl2] at R2' ⊢;rw[hl2] at hc1;clear hl2;generalize 2 ^ k=y at*
  unfold maxLen at h2;have hq:2*(y:Int)/2=y:=a_;go_enter Tryz.func207,Tryz.ntmps207
  go_wp2
  refine qoH ?_;repeat(go_big_quiet_step (first
    |(go_at_call 207;refine qal (IH.out la _ _ T1.out a_ L1.out (R1'.up _)))
    |(go_at_call 207;refine qal (IH.out lb _ _ T2.out a_ L2.out (R2'.up _)))
    |(go_at_call 256;refine qaj (qcn _ _ _ D1.out D2.out))))
  refine wq_ fun w1 hb1=>?_;go_wp2
  go_ret;exact⟨qfp E.out.symm,hb1⟩

def qbm(l:List Int)(p:Nat):List Int:=(qaz p l.length).map (qdK l)
theorem qlu{l:List Int}{p0 p:Nat}{out:List Int}(h:out++qbm l p=qbm l p0):out.length≤17:=by
 have h1:=congrArg List.length h;have h2:=qaY p0 l.length;simp[qbm] at h1;omega
theorem qeu(l:List Int)(p0:Nat)(v:Value)(w:World)(hd:qb7 l=true)(h16:l.length≤16)(hp:p0≤l.length)(hv:RI w v l):
 Calls Tryz.prog 205 #[v,.int .i64 p0] w fun e w'=>∃ v',e=.returned v'∧O1 (Value.int .i64) w.heap.size 3 w' v' (qbm l p0)∧bB w w':=by
 have HD:=hI_ hd;clear hd;have HV:=hI_ hv;obtain⟨A,c,rfl,h1,h2,h3⟩:=hv;unfold maxLen at h2;have hb0:0<l.length→∃ b o,A=some ⟨b,o,none⟩:=fun h=>by obtain⟨b,o,hA,_⟩:=h3 h;exact⟨b,o,hA⟩
 have HB:=hI_ hb0;have hc1:=h1.1;clear h3 hb0 h1;go_enter Tryz.func205,Tryz.ntmps205
 go_wp2
 go_loopw [5,6] (fun out q wr=>∃ (p:Nat) (l1:List Int),p≤l.length∧q=.int .i64 p∧O1 (Value.int .i64) w.heap.size 3 wr out l1∧Hid (l1++qbm l p=qbm l p0)∧bB w wr) (fun _ q _=>l.length-(intOf q).toNat)
 case atStart=>exact⟨p0,[],hp,rfl,O1.made _ _ _,hI_ rfl,(bR_ _ _).alloc (nr_ _) _⟩
 case round=>
  obtain⟨p,l1,hpl,rfl,hown,HX,hb⟩:=hrel;by_cases hlt:p<l.length
  · obtain⟨b,o,rfl⟩:=HB.out a_;obtain⟨hs1,hs2⟩:=qgf hlt;have hmem:(p,sz p l.length) ∈ qaz p l.length:=by rw[qcH hlt h16];simp
    obtain⟨g1,g2,g3⟩:=qcW l.length a_ p a_ _ hmem;have HG:=hI_ g2;have HC:Hid (qbm l p=qbU l (sz p l.length).log2 p::qbm l (p+sz p l.length)):=hI_ (by unfold qbm;rw[qcH hlt h16];rfl);have hl1:=qlu HX.out;have HTD:=hI_ (qcb (qc0 HD.out p) (sz p l.length));have HR:Hid (qbU ((l.drop p).take (sz p l.length)) (sz p l.length).log2 0=qbU l (sz p l.length).log2 p):=hI_ (by rw[qcG _ _ (by simp only at g2;omega),qcZ,Nat.add_zero]);have HL:Hid (((l.drop p).take (sz p l.length)).length=2 ^ (sz p l.length).log2):=hI_ (by simp only at g2;rw[g2];simp;omega);have hrd:=R1.take (R1.drop (HV.out.below hb) (m:=p) a_) (m:=sz p l.length) n_;simp only at g1 g3;clear hmem g2;generalize(sz p l.length).log2=lg at*
    generalize(l.drop p).take (sz p l.length)=lt at*
    generalize hs:sz p l.length=s at*
    have HS:=hI_ hs;clear hs;go_wp2_with (first
     |(go_at_call 208;refine(qb3 p l.length _ a_ h16).mono ?_;rw[HS.out];rintro e w' ⟨rfl,rfl⟩)
     |(go_at_call 207;refine(qfz lg lt _ _ HTD.out g3 HL.out hrd).mono ?_;rw[HR.out];rintro e w1 ⟨rfl,hb1⟩;have hown1:=hown.below hb1;have hb2:=hb.trans (hb1.mono hb.size))
     |(at_builtin;refine qcf hown1 a_ hb2.size rfl rfl rfl rfl ?_;intro v3 w3 hown3 hb3))
    go_roundw
    case rel=>exact⟨p+s,l1++[qbU l lg p],a_,t_,hown3,hI_ aL_,hb2.trans hb3⟩
    case measure=>simp[intOf];omega
  · go_wp2
    go_ret;have hc:qbm l p=[]:=by unfold qbm;rw[qd0 a_];rfl
    have:=HX.out;rw[hc,List.append_nil] at this;exact⟨_,rfl,by rw[←this];exact hown,hb⟩
end Go.Proofs.YtekaaekpdebloaaGreatDoor

/- Words and walks of the law. -/
import Derived.Test.YtekaaekpdebloaaGreatDoorCV5
import Derived.Test.YtekaaekpdebloaaGreatDoorCS5
set_option linter.unusedVariables false
set_option linter.unusedSimpArgs false
set_option maxHeartbeats 12800000
set_option maxRecDepth 100000
namespace Go.Proofs.YtekaaekpdebloaaGreatDoor
open Go.RowKit

theorem Mid.grown{B1 B2:Nat}{a b:World}{row:Option Nat}(h:a.grownBy b row)(hr:∀ k,row=some k→B1≤k∧k<B2):Mid B1 B2 a b:=
 ⟨h.os,h.tape,h.output,h.size,fun k hk hd=>h.block k hk (fun e=>by have:=hr k e.symm;omega)⟩
theorem Mid.setCell{B1 B2:Nat}{a w:World}(h:Mid B1 B2 a w){p:Addr}(h1:B1≤p.block)(h2:p.block<B2)(u:Value):Mid B1 B2 a (w.setCell p u):=
 h.trans ⟨rfl,rfl,rfl,a0_,fun k _ hd=>Below.heap_setCell _ _ _ _ a_⟩
theorem O1.mid{α:Type}{enc:α→Value}{B B1 B2:Nat}{e:TypeId}{w w':World}{v:Value}{l:List α}(h:O1 enc B e w v l)(hb:Mid B1 B2 w w')(hB:B2≤B):O1 enc B e w' v l:=by
 refine⟨h.1,?_⟩;rcases h.2 with hn|⟨k,cap,cur,hv,hk,hh,r⟩
 · exact .inl hn
 · exact .inr ⟨k,cap,cur,hv,hk,(hb.block k (Array.getElem?_eq_some_iff.1 hh).1 (.inr a_)).trans hh,r⟩
def qqx{α:Type}(enc:α→Value)(e:TypeId)(g:Nat)(w:World)(l:List α)(k:Nat):Prop:=
 ∃ cur:Array Value,w.heap[g]? =some (.cells cur e (0,0))∧cur.size=l.length∧∀ j (hj:j<l.length),j<k→cur[j]? =some (enc l[j])
theorem qqx.own{α:Type}{enc:α→Value}{e:TypeId}{g:Nat}{w:World}{l:List α}(h:qqx enc e g w l l.length)(hm:l.length≤maxLen):O1 enc g e w (.slice (some ⟨g,0,none⟩) l.length l.length) l:=by
 obtain⟨cur,h1,h2,h3⟩:=h;refine⟨k_,.inr ⟨g,l.length,cur,rfl,nr_ _,h1,nr_ _,hm,by rw[h2];simp,?_⟩⟩;rw[Nat.mul_one,List.take_of_length_le (by rw[Array.length_toList,h2];exact nr_ _)];apply List.ext_getElem?;intro j;by_cases hj:j<l.length
 · have:=h3 j hj hj;simp[hj] at this ⊢;exact this
 · rw[List.getElem?_eq_none (by rw[Array.length_toList,h2];omega),List.getElem?_eq_none n_]
theorem qqx.step{α:Type}{enc:α→Value}{e:TypeId}{g:Nat}{w:World}{l:List α}{k:Nat}(h:qqx enc e g w l k)(hk:k<l.length):qqx enc e g (w.setCell ⟨g,k,none⟩ (enc l[k])) l (k+1):=by
 obtain⟨cur,h1,h2,h3⟩:=h;refine⟨cur.setIfInBounds k (enc l[k]),?_,by simp[h2],fun j hj hjk=> ?_⟩
 · simp[World.setCell,Array.getElem?_modify,h1]
 · by_cases hjk2:j=k
   · subst hjk2;simp[h2,hj]
   · rw[Array.getElem?_setIfInBounds_ne a_];exact h3 j hj a_
theorem qqx.cell{α:Type}{enc:α→Value}{e:TypeId}{g:Nat}{w:World}{l:List α}{k:Nat}(h:qqx enc e g w l k){j:Nat}(hj:j<l.length):(∃ u,w.cell? ⟨g,j,none⟩=some u)∧w.frozen? ⟨g,j,none⟩=false:=by
 obtain⟨cur,h1,h2,h3⟩:=h;exact⟨⟨cur[j]'(by omega),by rw[cell_of_row w g j cur e (0,0) h1];simp[h2,hj]⟩,by simp[World.frozen?,h1]⟩
theorem qqx.made{α:Type}(enc:α→Value)(e:TypeId)(w:World)(z:Value)(l:List α):qqx enc e w.heap.size (w.alloc (.cells (madeCells #[z] l.length) e)) l 0:=
 ⟨_,heap_alloc_new w _,b3_,fun j _ h=>a_⟩
theorem qqg(l:List ByteArray)(v:Value)(w:World)(hv:R1 (Value.string) w v l)(hl:l.length≤1048576):
 Calls Tryz.prog 225 #[v] w fun e w'=>e=.returned (.slice (some ⟨w.heap.size,0,none⟩) l.length l.length)∧O1 (Value.string) w.heap.size 9 w' (.slice (some ⟨w.heap.size,0,none⟩) l.length l.length) l∧bB w w':=by
 have HV:=hI_ hv;obtain⟨A,c,rfl,h1,h2,h3⟩:=hv;clear h1 h2 h3;obtain⟨i0,hi,hz0,hz1,hz2⟩:=info_parts qfy;have hmk:=fun W=>run_make_row (P:=Tryz.prog) 47 9 i0 (.string ⟨#[]⟩) Tryz.underlying47 hi hz0 hz1 rfl .i64 .i64 l.length bS_ a_ W;have hF0:=qqx.made (Value.string) 9 w (.string ⟨#[]⟩) l;have HF0:=hI_ hF0;clear hF0;go_enter Tryz.func225,Tryz.ntmps225
 go_wp2
 clear hmk;go_loopw [4] (fun i wr=>∃ k:Nat,k≤l.length∧i=.int .i64 k∧qqx (Value.string) 9 w.heap.size wr l k∧bB w wr) (fun i _=>l.length-(intOf i).toNat)
 case atStart=>exact⟨0,Nat.zero_le _,rfl,HF0.out,(bR_ _ _).alloc (nr_ _) _⟩
 case round=>
  obtain⟨k,hk,rfl,hF,hb⟩:=hrel;by_cases hlt:k<l.length
  · obtain⟨_,_,hA,_,_,hc⟩:=HV.out.below hb;cases hA;obtain⟨b,o,rfl,hbs,hc⟩:=hc a_;have e1:=hc k hlt;obtain⟨⟨u,e2⟩,e3⟩:=hF.cell hlt;have HST:=hI_ (hF.step hlt);clear hc;generalize l[k]=x at*
    go_wp2
    go_roundw
    case rel=>exact⟨k+1,a_,t_,HST.out,hb.setCell (nr_ _) _⟩
    case measure=>simp[intOf];omega
  · obtain rfl:k=l.length:=a_;go_wp2
    go_ret;exact⟨rfl,hF.own s_,hb⟩

theorem qqG(l:List Bool)(v:Value)(w:World)(hv:R1 (Value.bool) w v l)(hl:l.length≤1048576):
 Calls Tryz.prog 226 #[v] w fun e w'=>e=.returned (.slice (some ⟨w.heap.size,0,none⟩) l.length l.length)∧O1 (Value.bool) w.heap.size 4 w' (.slice (some ⟨w.heap.size,0,none⟩) l.length l.length) l∧bB w w':=by
 have HV:=hI_ hv;obtain⟨A,c,rfl,h1,h2,h3⟩:=hv;clear h1 h2 h3;obtain⟨i0,hi,hz0,hz1,hz2⟩:=info_parts qeM;have hmk:=fun W=>run_make_row (P:=Tryz.prog) 48 4 i0 (.bool false) Tryz.underlying48 hi hz0 hz1 rfl .i64 .i64 l.length bS_ a_ W;have hF0:=qqx.made (Value.bool) 4 w (.bool false) l;have HF0:=hI_ hF0;clear hF0;go_enter Tryz.func226,Tryz.ntmps226
 go_wp2
 clear hmk;go_loopw [4] (fun i wr=>∃ k:Nat,k≤l.length∧i=.int .i64 k∧qqx (Value.bool) 4 w.heap.size wr l k∧bB w wr) (fun i _=>l.length-(intOf i).toNat)
 case atStart=>exact⟨0,Nat.zero_le _,rfl,HF0.out,(bR_ _ _).alloc (nr_ _) _⟩
 case round=>
  obtain⟨k,hk,rfl,hF,hb⟩:=hrel;by_cases hlt:k<l.length
  · obtain⟨_,_,hA,_,_,hc⟩:=HV.out.below hb;cases hA;obtain⟨b,o,rfl,hbs,hc⟩:=hc a_;have e1:=hc k hlt;obtain⟨⟨u,e2⟩,e3⟩:=hF.cell hlt;have HST:=hI_ (hF.step hlt);clear hc;generalize l[k]=x at*
    go_wp2
    go_roundw
    case rel=>exact⟨k+1,a_,t_,HST.out,hb.setCell (nr_ _) _⟩
    case measure=>simp[intOf];omega
  · obtain rfl:k=l.length:=a_;go_wp2
    go_ret;exact⟨rfl,hF.own s_,hb⟩

theorem qq6(l:List Int)(v:Value)(w:World)(hv:R1 (Value.int .i64) w v l)(hl:l.length≤1048576):
 Calls Tryz.prog 228 #[v] w fun e w'=>e=.returned (.slice (some ⟨w.heap.size,0,none⟩) l.length l.length)∧O1 (Value.int .i64) w.heap.size 3 w' (.slice (some ⟨w.heap.size,0,none⟩) l.length l.length) l∧bB w w':=by
 have HV:=hI_ hv;obtain⟨A,c,rfl,h1,h2,h3⟩:=hv;clear h1 h2 h3;obtain⟨i0,hi,hz0,hz1,hz2⟩:=info_parts qfx;have hmk:=fun W=>run_make_row (P:=Tryz.prog) 43 3 i0 (.int .i64 0) Tryz.underlying43 hi hz0 hz1 rfl .i64 .i64 l.length bS_ a_ W;have hF0:=qqx.made (Value.int .i64) 3 w (.int .i64 0) l;have HF0:=hI_ hF0;clear hF0;go_enter Tryz.func228,Tryz.ntmps228
 go_wp2
 clear hmk;go_loopw [4] (fun i wr=>∃ k:Nat,k≤l.length∧i=.int .i64 k∧qqx (Value.int .i64) 3 w.heap.size wr l k∧bB w wr) (fun i _=>l.length-(intOf i).toNat)
 case atStart=>exact⟨0,Nat.zero_le _,rfl,HF0.out,(bR_ _ _).alloc (nr_ _) _⟩
 case round=>
  obtain⟨k,hk,rfl,hF,hb⟩:=hrel;by_cases hlt:k<l.length
  · obtain⟨_,_,hA,_,_,hc⟩:=HV.out.below hb;cases hA;obtain⟨b,o,rfl,hbs,hc⟩:=hc a_;have e1:=hc k hlt;obtain⟨⟨u,e2⟩,e3⟩:=hF.cell hlt;have HST:=hI_ (hF.step hlt);clear hc;generalize l[k]=x at*
    go_wp2
    go_roundw
    case rel=>exact⟨k+1,a_,t_,HST.out,hb.setCell (nr_ _) _⟩
    case measure=>simp[intOf];omega
  · obtain rfl:k=l.length:=a_;go_wp2
    go_ret;exact⟨rfl,hF.own s_,hb⟩

theorem qqZ(a b c:Int)(w:World):gV 224 #[.agg #[.int .i64 a,.int .i64 b,.int .i64 c]] w (.agg #[.int .i64 a,.int .i64 b,.int .i64 c]):=by
 go_enter Tryz.func224,Tryz.ntmps224
 go_wp2
 exact bodyPost_ret (v:=.agg #[.int .i64 a,.int .i64 b,.int .i64 c]) (by simp[results,Tryz.results224,go_sem]) rfl ⟨rfl,bH_⟩
theorem qqY(f:Fd)(vb vh:Value)(w:World)(hf:qaU w f vb vh)(h1:f.bl.length≤1048576)(h2:f.hv.length≤1048576):
 Calls Tryz.prog 160 #[.agg #[.int .i64 f.pub,.int .i64 f.hd.len,.int .i64 f.hd.dg,.int .i64 f.hd.sg,vb,vh]] w fun e w'=>∃ ub uh,e=.returned (.agg #[.int .i64 f.pub,.int .i64 f.hd.len,.int .i64 f.hd.dg,.int .i64 f.hd.sg,ub,uh])∧qaK w.heap.size w' f ub uh∧bB w w':=by
 have HFA:=hI_ hf;go_enter Tryz.func160,Tryz.ntmps160
 go_wp2_with fail
 refine(qqZ _ _ _ _).mono ?_;rintro e w1 ⟨rfl,hb1⟩;have hcc1:=qeY hb1;have hs1:=hb1.size;simp at hs1;have HQ1:Hid (bB w w1):=(by repeat(first|exact bR_ _ _|refine Below.setCell ?_ bG_ _|refine Below.alloc ?_ bG_ _|refine Below.trans ?_ (hb1.mono bT_)))
 have l10:w.heap.size<w1.heap.size:=a_;have l11:w.heap.size+1<w1.heap.size:=a_;have l12:w.heap.size+1+1<w1.heap.size:=a_;go_wp2_with fail
 refine(qqg f.bl _ _ (HFA.out.bl.below ?hbx) h1).mono ?_
 case hbx=>exact(by repeat(first|exact bR_ _ _|refine Below.setCell ?_ bG_ _|refine Below.alloc ?_ bG_ _|exact HQ1.out))
 rintro e w2 ⟨rfl,ho2,hb2⟩;have HQ2:Hid (bB w w2):=hI_ (Below.trans (by repeat(first|exact bR_ _ _|refine Below.setCell ?_ bG_ _|refine Below.alloc ?_ bG_ _|exact HQ1.out)) (hb2.mono n_));have hcc2:=qeY hb2;have hs2:=hb2.size;simp at hs2;have l20:w.heap.size<w2.heap.size:=a_;have l21:w.heap.size+1<w2.heap.size:=a_;have l22:w.heap.size+1+1<w2.heap.size:=a_;have HO2:=hI_ (ho2.mono (B':=w.heap.size) n_);go_wp2_with fail
 refine(qqG f.hv _ _ (HFA.out.hv.below ?hbx) h2).mono ?_
 case hbx=>exact(by repeat(first|exact bR_ _ _|refine Below.setCell ?_ bG_ _|refine Below.alloc ?_ bG_ _|exact HQ2.out))
 rintro e w3 ⟨rfl,ho3,hb3⟩;have HQ3:Hid (bB w w3):=hI_ (Below.trans (by repeat(first|exact bR_ _ _|refine Below.setCell ?_ bG_ _|refine Below.alloc ?_ bG_ _|exact HQ2.out)) (hb3.mono n_));have hcc3:=qeY hb3;have hs3:=hb3.size;simp at hs3;have l30:w.heap.size<w3.heap.size:=a_;have l31:w.heap.size+1<w3.heap.size:=a_;have l32:w.heap.size+1+1<w3.heap.size:=a_;have HO3:=hI_ (ho3.mono (B':=w.heap.size) n_);go_wp2
 refine bodyPost_ret (v:=.agg #[.int .i64 f.pub,.int .i64 f.hd.len,.int .i64 f.hd.dg,.int .i64 f.hd.sg,.slice (some ⟨w1.heap.size,0,none⟩) f.bl.length f.bl.length,.slice (some ⟨w2.heap.size,0,none⟩) f.hv.length f.hv.length]) (by simp[results,Tryz.results160,go_sem,hcc1,hcc2,hcc3,l11,l21,l30,l31,l32]) rfl ?_;refine⟨_,_,rfl,⟨?_,?_⟩,?_⟩
 · have ho:=ho2;simp only[World.size_setCell] at ho;exact O1.mono (O1.mid (B1:=w.heap.size) (B2:=w.heap.size+3) ho (by repeat(first|refine Mid.setCell ?_ bT_ bT_ _|refine Mid.trans ?_ (Mid.of_below hb3)|exact Mid.refl _ _ _)) a_) a_
 · have ho:=ho3;simp only[World.size_setCell] at ho;exact O1.mono (O1.mid (B1:=w.heap.size) (B2:=w.heap.size+3) ho (by repeat(first|refine Mid.setCell ?_ bT_ bT_ _|exact Mid.refl _ _ _)) a_) a_
 · exact(by repeat(first|refine Below.setCell ?_ bT_ _|exact HQ3.out))
def qrh:Nat→Nat→List UInt8→List UInt8
 |0,_,acc=>acc
 |f+1,k,acc=>if k=0 then acc else qrh f (k/10) (UInt8.ofNat (48+k%10)::acc)
def mtx(k:Nat):ByteArray:=if k=0 then ⟨#[109,48]⟩ else ⟨(109::qrh 20 k []).toArray⟩

theorem qpH(k:Nat)(w:World)(hk:k≤1000000000000):
 gV 96 #[.int .i64 k] w (.string (mtx k)):=by
 by_cases h0:k=0
 · subst h0;go_enter Tryz.func96,Tryz.ntmps96
   go_wp2
   go_ret;exact⟨rfl,bR_ _ _⟩
 · have h1:¬ (k:Int)≤0:=a_;have HM:Hid (mtx k=⟨(109::qrh 20 k []).toArray⟩):=hI_ (by unfold mtx;rw[if_neg h0]);have HCV:=hI_ (fun(W:World) (x:Int)=>qmC W x);go_enter Tryz.func96,Tryz.ntmps96
   go_wp2
   go_loopw [0,3] (fun q s wr=>∃ (f m:Nat) (acc:List UInt8),m≤1000000000000∧q=.int .i64 m∧s=.string ⟨acc.toArray⟩∧acc.length+f=20∧Hid (m<10 ^ f∧qrh f m acc=qrh 20 k [])∧bB w wr) (fun q _ _=>(intOf q).toNat)
   case atStart=>exact⟨20,k,[],hk,rfl,rfl,rfl,hI_ ⟨a_,rfl⟩,bR_ _ _⟩
   case round=>
    obtain⟨f,m,acc,hm,rfl,rfl,hf,HD,hb⟩:=hrel;have hal:acc.toArray.size≤20:=by simp;omega
    by_cases hz:m=0
    · subst hz;have HE:Hid (qrh 20 k []=acc):=hI_ (by
       rw[←HD.out.2];cases f <;> simp[qrh])
      go_wp2
      go_ret;refine⟨?_,hb⟩;rw[HM.out,HE.out];show Ending.returned (Value.string (_++_))=_;rw[show(⟨#[109]⟩:ByteArray)=⟨[109].toArray⟩ from rfl,ByteArray.mk_append_mk];rfl
    · have hm0:(0:Int)<(m:Int):=a_;have hcv:=HCV.out wr (48+(m:Int)%10);have HE:Hid (∃ f',f=f'+1∧m/10<10 ^ f'∧qrh f' (m/10) (UInt8.ofNat (48+m%10)::acc)=qrh 20 k []):=hI_ (by
       obtain⟨h1,h2⟩:=HD.out;cases f with
       |zero=>omega
       |succ f=>exact⟨f,rfl,by rw[Nat.pow_succ] at h1;omega,by rw[←h2];conv=>{rhs;unfold qrh};rw[if_neg hz]⟩)
      go_wp2
      go_roundw
      case rel=>
       obtain⟨f',rfl,h1,h2⟩:=HE.out;refine⟨f',m/10,UInt8.ofNat (48+m%10)::acc,a_,t_,?_,n_,hI_ ⟨h1,h2⟩,hb.alloc hb.size _⟩;rw[ByteArray.mk_append_mk,UInt8.ofNat_add];rfl
      case measure=>simp[intOf];omega

def mk{α:Type}(f:Nat→α)(j:Nat)(l:List α):List α:=(List.range j).map f++l.drop j
theorem qpw{α:Type}{f:Nat→α}{j:Nat}{l:List α}(h:j≤l.length):(mk f j l).length=l.length:=by simp[mk];omega
theorem qpW{α:Type}{f:Nat→α}{j:Nat}{l:List α}(h:j<l.length):(mk f j l).set j (f j)=mk f (j+1) l:=by
 unfold mk;rw[List.set_append_right _ _ k_,List.range_succ,List.map_append,List.append_assoc];rw[List.length_map,List.length_range,Nat.sub_self,List.drop_eq_getElem_cons h];rfl
theorem qqq{α:Type}{f:Nat→α}{l:List α}:mk f l.length l=(List.range l.length).map f:=by simp[mk]
def qp4{α:Type}(enc:α→Value)(B:Nat)(e:TypeId)(f:Nat→α)(k:Nat)(v:Value)(n:Nat)(w:World)(en:Ending)(w':World):Prop:=
 en=.returned (.int .i64 ((k+n:Nat):Int))∧O1 enc B e w' v ((List.range n).map f)∧w.grownBy w' v.ownBlock
theorem qqp(l:List Int)(v:Value)(k B:Nat)(w:World)(hv:O1 (Value.int .i64) B 3 w v l)(hl:l.length≤2000000)(hk:k≤1000000000):
 Calls Tryz.prog 171 #[v,.int .i64 k] w (qp4 (Value.int .i64) B 3 (fun j=>((k+j:Nat):Int)) k v l.length w):=by
 have HV:=hI_ hv;obtain⟨A,c,rfl,h1,h2,h3⟩:=hv.r1;clear h1 h2 h3 hv;go_enter Tryz.func171,Tryz.ntmps171
 go_wp2
 go_loopw [1,5] (fun t i wr=>∃ j:Nat,j≤l.length∧i=.int .i64 j∧t=.int .i64 ((k+j:Nat):Int)∧O1 (Value.int .i64) B 3 wr (.slice A l.length c) (mk (fun j=>((k+j:Nat):Int)) j l)∧w.grownBy wr (Value.slice A l.length c).ownBlock) (fun _ i _=>l.length-(intOf i).toNat)
 case atStart=>exact⟨0,Nat.zero_le _,rfl,rfl,HV.out,qii _ _⟩
 case round=>
  obtain⟨j,hj,rfl,rfl,ho,hg⟩:=hrel;by_cases hlt:j<l.length
  · obtain⟨g,cap,hA,hgB,hgs⟩:=ho.form (by rw[qpw hj];omega);rw[qpw hj] at hA;cases hA;have hml:j<(mk (fun j=>((k+j:Nat):Int)) j l).length:=by rw[qpw hj];exact hlt
    have HM:=hI_ (qpW (f:=fun j=>((k+j:Nat):Int)) hlt);obtain⟨e1,e2⟩:=ho.at_ hml;have HS:=hI_ (ho.setAt hml (((k+j:Nat):Int)));have e1':∃ u,wr.cell? ⟨g,j,none⟩=some u:=⟨_,e1⟩
    clear e1;obtain⟨u,e1⟩:=e1';go_wp2
    go_roundw
    case rel=>exact⟨j+1,a_,t_,t_,by rw[←HM.out];exact HS.out.1,qat hg HS.out.2⟩
    case measure=>simp[intOf];omega
  · obtain rfl:j=l.length:=a_;go_wp2
    go_ret;exact⟨rfl,by rw[←qqq];exact ho,hg⟩
theorem qqa(l:List Bool)(v:Value)(k B:Nat)(w:World)(hv:O1 (Value.bool) B 4 w v l)(hl:l.length≤2000000)(hk:k≤1000000000):
 Calls Tryz.prog 169 #[v,.int .i64 k] w (qp4 (Value.bool) B 4 (fun j=>((k+j)%3==0)) k v l.length w):=by
 have HV:=hI_ hv;obtain⟨A,c,rfl,h1,h2,h3⟩:=hv.r1;clear h1 h2 h3 hv;go_enter Tryz.func169,Tryz.ntmps169
 go_wp2
 go_loopw [1,5] (fun t i wr=>∃ j:Nat,j≤l.length∧i=.int .i64 j∧t=.int .i64 ((k+j:Nat):Int)∧O1 (Value.bool) B 4 wr (.slice A l.length c) (mk (fun j=>((k+j)%3==0)) j l)∧w.grownBy wr (Value.slice A l.length c).ownBlock) (fun _ i _=>l.length-(intOf i).toNat)
 case atStart=>exact⟨0,Nat.zero_le _,rfl,rfl,HV.out,qii _ _⟩
 case round=>
  obtain⟨j,hj,rfl,rfl,ho,hg⟩:=hrel;by_cases hlt:j<l.length
  · obtain⟨g,cap,hA,hgB,hgs⟩:=ho.form (by rw[qpw hj];omega);rw[qpw hj] at hA;cases hA;have hml:j<(mk (fun j=>((k+j)%3==0)) j l).length:=by rw[qpw hj];exact hlt
    have HM:=hI_ (qpW (f:=fun j=>((k+j)%3==0)) hlt);obtain⟨e1,e2⟩:=ho.at_ hml;have HS:=hI_ (ho.setAt hml (((k+j)%3==0)));have e1':∃ u,wr.cell? ⟨g,j,none⟩=some u:=⟨_,e1⟩
    clear e1;obtain⟨u,e1⟩:=e1';by_cases h3:(k+j)%3=0
    · have h3':((k:Int)+(j:Int))%3=0:=a_;have h4:((k+j)%3==0)=true:=by simp[h3]
      have HM2:=HM.out;simp only[h4] at HM2;rw[h4] at HS;have HM:=hI_ HM2;clear h3 h4 HM2;go_wp2
      go_roundw
      case rel=>exact⟨j+1,a_,t_,t_,by rw[←HM.out];exact HS.out.1,qat hg HS.out.2⟩
      case measure=>simp[intOf];omega
    have h3':(((k:Int)+(j:Int))%3==0)=false:=by simp;omega
    have h4:((k+j)%3==0)=false:=by simpa using h3
    have HM2:=HM.out;simp only[h4] at HM2;rw[h4] at HS;have HM:=hI_ HM2;clear h3 h4 HM2;go_wp2
    go_roundw
    case rel=>exact⟨j+1,a_,t_,t_,by rw[←HM.out];exact HS.out.1,qat hg HS.out.2⟩
    case measure=>simp[intOf];omega
  · obtain rfl:j=l.length:=a_;go_wp2
    go_ret;exact⟨rfl,by rw[←qqq];exact ho,hg⟩
theorem qpV(l:List ByteArray)(v:Value)(k B:Nat)(w:World)(hv:O1 (Value.string) B 9 w v l)(hl:l.length≤2000000)(hk:k≤1000000000):
 Calls Tryz.prog 168 #[v,.int .i64 k] w (qp4 (Value.string) B 9 (fun j=>mtx (k+j)) k v l.length w):=by
 have HV:=hI_ hv;obtain⟨A,c,rfl,h1,h2,h3⟩:=hv.r1;clear h1 h2 h3 hv;go_enter Tryz.func168,Tryz.ntmps168
 go_wp2
 go_loopw [1,5] (fun t i wr=>∃ j:Nat,j≤l.length∧i=.int .i64 j∧t=.int .i64 ((k+j:Nat):Int)∧O1 (Value.string) B 9 wr (.slice A l.length c) (mk (fun j=>mtx (k+j)) j l)∧w.grownBy wr (Value.slice A l.length c).ownBlock) (fun _ i _=>l.length-(intOf i).toNat)
 case atStart=>exact⟨0,Nat.zero_le _,rfl,rfl,HV.out,qii _ _⟩
 case round=>
  obtain⟨j,hj,rfl,rfl,ho,hg⟩:=hrel;by_cases hlt:j<l.length
  · obtain⟨g,cap,hA,hgB,hgs⟩:=ho.form (by rw[qpw hj];omega);rw[qpw hj] at hA;cases hA;have hml:j<(mk (fun j=>mtx (k+j)) j l).length:=by rw[qpw hj];exact hlt
    have HM:=hI_ (qpW (f:=fun j=>mtx (k+j)) hlt);go_wp2_with fail
    refine(qpH (k+j) _ a_).mono ?_;rintro e w1 ⟨rfl,hb1⟩;have ho0:=ho;have hg0:=hg;have hgs0:=hgs;clear ho hg hgs;have ho:=ho0.below hb1;have hg:=qat hg0 (qaP hb1);have hgs:=nL_ hgs0 hb1.size;clear ho0 hg0 hgs0;clear hb1;clear wr;obtain⟨wr,rfl⟩:∃ wr:World,wr=w1:=⟨_,rfl⟩
    obtain⟨e1,e2⟩:=ho.at_ hml;have HS:=hI_ (ho.setAt hml (mtx (k+j)));have e1':∃ u,wr.cell? ⟨g,j,none⟩=some u:=⟨_,e1⟩
    clear e1;obtain⟨u,e1⟩:=e1';go_wp2
    go_roundw
    case rel=>exact⟨j+1,a_,t_,t_,by rw[←HM.out];exact HS.out.1,qat hg HS.out.2⟩
    case measure=>simp[intOf];omega
  · obtain rfl:j=l.length:=a_;go_wp2
    go_ret;exact⟨rfl,by rw[←qqq];exact ho,hg⟩

def qp3(k n:Nat)(w:World)(en:Ending)(w':World):Prop:=en=.returned (.int .i64 ((k+n:Nat):Int))∧bB w w'
theorem qqn(n:Nat)(v:Value)(k:Nat)(w:World)(hv:RI w v ((List.range n).map fun j=>((k+j:Nat):Int)))(hl:n≤2000000)(hk:k≤1000000000):
 Calls Tryz.prog 175 #[v,.int .i64 k] w (qp3 k n w):=by
 obtain⟨A,c,rfl,h1,h2,h3⟩:=hv;simp only[List.length_map,List.length_range] at h1 h3 ⊢;clear h1 h2;go_enter Tryz.func175,Tryz.ntmps175
 go_wp2
 go_loop [1,5] (fun t i=>∃ j:Nat,j≤n∧i=.int .i64 j∧t=.int .i64 ((k+j:Nat):Int)) (fun _ i=>n-(intOf i).toNat)
 case atStart=>exact⟨0,Nat.zero_le _,rfl,rfl⟩
 case round=>
  obtain⟨j,hj,rfl,rfl⟩:=hrel;by_cases hlt:j<n
  · obtain⟨b,o,rfl,hb,hc⟩:=h3 a_;have hcell:w.cell? ⟨b,o+j,none⟩=some (.int .i64 ((k:Int)+(j:Int))):=by
     have:=hc j hlt;simpa using this
    clear hc h3;go_wp2
    go_round
    case rel=>exact⟨j+1,a_,t_,t_⟩
    case measure=>simp[intOf];omega
  · obtain rfl:j=n:=a_;go_wp2
    go_ret;exact⟨rfl,bR_ _ _⟩
theorem qp2{k:Nat}{x:ByteArray}(h:Hid (mtx k=x))(w:World)(hk:k≤1000000000000):gV 96 #[.int .i64 k] w (.string x):=by
 rw[←h.out];exact qpH k w hk
theorem qpT(n:Nat)(v:Value)(k:Nat)(w:World)(hv:RS w v ((List.range n).map fun j=>mtx (k+j)))(hl:n≤2000000)(hk:k≤1000000000):
 Calls Tryz.prog 172 #[v,.int .i64 k] w (qp3 k n w):=by
 have HV:=hI_ hv;obtain⟨A,c,rfl,h1,h2,h3⟩:=hv;simp only[List.length_map,List.length_range] at h1 HV ⊢;clear h1 h2 h3;go_enter Tryz.func172,Tryz.ntmps172
 go_wp2
 go_loopw [1,5] (fun t i wr=>∃ j:Nat,j≤n∧i=.int .i64 j∧t=.int .i64 ((k+j:Nat):Int)∧bB w wr) (fun _ i _=>n-(intOf i).toNat)
 case atStart=>exact⟨0,Nat.zero_le _,rfl,rfl,bR_ _ _⟩
 case round=>
  obtain⟨j,hj,rfl,rfl,hb⟩:=hrel;by_cases hlt:j<n
  · have hlt':(j:Int)<(n:Int):=a_;obtain⟨A',c',hA,_,_,hc⟩:=HV.out.below hb;simp only[List.length_map,List.length_range] at hA hc;cases hA;obtain⟨b,o,rfl,hbs,hc⟩:=hc a_;have hcell:wr.cell? ⟨b,o+j,none⟩=some (.string (mtx (k+j))):=by
     have:=hc j hlt;simpa using this
    clear hc;obtain⟨x,HX⟩:=nm_ (mtx (k+j));rw[HX.out] at hcell;obtain⟨kj,HKJ⟩:∃ kj:Nat,Hid (k+j=kj):=⟨_,hI_ rfl⟩
    rw[HKJ.out] at HX;have hkj:kj≤1000000000000:=by have:=HKJ.out;omega
    simp only[HKJ.out];go_wp2_with fail
    have hup:=qap wr;refine qoH ?_;repeat(go_big_quiet_step ((go_at_call 96;exact qal (qp2 HX _ hkj))))
    refine wq_ fun w1 hb1=>?_;clear hup;go_wp2
    go_roundw
    case rel=>exact⟨j+1,a_,t_,by have:=HKJ.out;go_num,hb.trans (hb1.mono hb.size)⟩
    case measure=>simp[intOf];omega
  · have hlt':¬ (j:Int)<(n:Int):=a_;obtain rfl:j=n:=a_;go_wp2
    go_ret;exact⟨rfl,hb⟩
theorem qp7(n:Nat)(v:Value)(k:Nat)(w:World)(hv:RB w v ((List.range n).map fun j=>((k+j)%3==0)))(hl:n≤2000000)(hk:k≤1000000000):
 Calls Tryz.prog 173 #[v,.int .i64 k] w (qp3 k n w):=by
 obtain⟨A,c,rfl,h1,h2,h3⟩:=hv;simp only[List.length_map,List.length_range] at h1 h3 ⊢;clear h1 h2;go_enter Tryz.func173,Tryz.ntmps173
 go_wp2
 go_loop [1,5] (fun t i=>∃ j:Nat,j≤n∧i=.int .i64 j∧t=.int .i64 ((k+j:Nat):Int)) (fun _ i=>n-(intOf i).toNat)
 case atStart=>exact⟨0,Nat.zero_le _,rfl,rfl⟩
 case round=>
  obtain⟨j,hj,rfl,rfl⟩:=hrel;by_cases hlt:j<n
  · obtain⟨b,o,rfl,hb,hc⟩:=h3 a_;have hcell:w.cell? ⟨b,o+j,none⟩=some (.bool ((k+j)%3==0)):=by
     have:=hc j hlt;simpa using this
    clear hc h3;by_cases h3:(k+j)%3=0
    · have h3':((k:Int)+(j:Int))%3=0:=a_;have h4:((k+j)%3==0)=true:=by simp[h3]
      rw[h4] at hcell;clear h3 h4;go_wp2
      go_round
      case rel=>exact⟨j+1,a_,t_,t_⟩
      case measure=>simp[intOf];omega
    · have h3':(((k:Int)+(j:Int))%3==0)=false:=by simp;omega
      have h4:((k+j)%3==0)=false:=by simpa using h3
      rw[h4] at hcell;clear h3 h4;go_wp2
      go_round
      case rel=>exact⟨j+1,a_,t_,t_⟩
      case measure=>simp[intOf];omega
  · obtain rfl:j=n:=a_;go_wp2
    go_ret;exact⟨rfl,bR_ _ _⟩
theorem qqj(l:List Fd)(va vb:Value)(w:World)(ha:qa6 w va l)(hb:qa6 w vb l):
 gV 83 #[va,vb] w (.bool true):=by
 have HA:=hI_ ha;have HB:=hI_ hb;have hm:=ha.len;obtain⟨A,c,rfl⟩:=ha.sl;obtain⟨A2,c2,rfl⟩:=hb.sl;unfold maxLen at hm;clear ha hb;have hnn:((l.length:Int)!=(l.length:Int))=false:=k_;go_enter Tryz.func83,Tryz.ntmps83
 go_wp2
 go_loopw [5] (fun i wr=>∃ k:Nat,k≤l.length∧i=.int .i64 k∧bB w wr) (fun i _=>l.length-(intOf i).toNat)
 case atStart=>exact⟨0,Nat.zero_le _,rfl,bR_ _ _⟩
 case round=>
  obtain⟨k,hk,rfl,hbw⟩:=hrel;by_cases hlt:k<l.length
  · obtain⟨b,o,x,y,rfl,hbs,e0,e1,e2,e3,e4,e5,e6⟩:=(HA.out.below hbw).at_ hlt;obtain⟨b',o',x',y',rfl,hbs',d0,d1,d2,d3,d4,d5,d6⟩:=(HB.out.below hbw).at_ hlt;have HE:=hI_ e6;have HD:=hI_ d6;clear e6 d6;generalize l[k]=f at*
    have hup:=qap wr;have hki:(k:Int)<(l.length:Int):=a_;have hk0:(0:Int)≤(k:Int):=a_;go_wp2
    refine qoH ?_;repeat(go_big_quiet_step ((go_at_call 164;exact qal (qnE f _ _ _ _ _ (HE.out.below' (qao _ _)) (HD.out.below' (qao _ _))))))
    refine wq_ fun w1 hb1=>?_;clear hup;go_wp2
    go_roundw
    case rel=>exact⟨k+1,a_,t_,hbw.trans (hb1.mono hbw.size)⟩
    case measure=>simp[intOf];omega
  · go_wp2
    go_ret;exact⟨rfl,hbw⟩
theorem qbb.cell{g:Nat}{a b:World}(h:qbb g a b){k o:Nat}(hk:k<a.heap.size)(hg:k≠g):b.cell? ⟨k,o,none⟩=a.cell? ⟨k,o,none⟩:=World.cell?_of_block (h.block k hk (fun e=>hg (Option.some.inj e)))
theorem R1.only{α:Type}{enc:α→Value}{w w':World}{v:Value}{l:List α}{g:Nat}(h:R1 enc w v l)(ho:qbb g w w')(hne:∀ b o,∀ n c,v=.slice (some ⟨b,o,none⟩) n c→b≠g):R1 enc w' v l:=by
 obtain⟨A,c,rfl,h1,h2,h3⟩:=h;refine⟨A,c,rfl,h1,h2,fun hl=> ?_⟩;obtain⟨b,o,rfl,hb,hc⟩:=h3 hl;exact⟨b,o,rfl,nL_ hb ho.size,fun j hj=>(ho.cell hb (hne b o _ _ rfl)).trans (hc j hj)⟩
section
variable {B q:Nat} {w w':World} {f:Fd} {vb vh:Value}
theorem FB.grown(h:FB B q w f vb vh){row:Option Nat}(hg:w.grownBy w' row)(hr:row≠some q)(hb:vb.ownBlock=none∨vb.ownBlock≠row)(hh:vh.ownBlock=none∨vh.ownBlock≠row):FB B q w' f vb vh:=
 ⟨(hg.block q h.lt (fun e=>hr e.symm)).trans h.box,⟨h.fo.bl.grown hg hb,h.fo.hv.grown hg hh⟩⟩
end

section
variable {B q:Nat} {w w':World} {f:Fd} {vb vh:Value}
theorem FB.g5(h:FB B q w f vb vh)(hg:w.grownBy w' vh.ownBlock):(∃ u,w'.cell? ⟨q,5,none⟩=some u)∧w'.frozen? ⟨q,5,none⟩=false:=by
 have hq:=(hg.block q h.lt (fun e=>h.nh e.symm)).trans h.box;exact⟨⟨vh,cell_of_row _ _ 5 _ _ _ hq⟩,by simp[World.frozen?,hq]⟩
end
theorem ON.madeN{e:TypeId}{w:World}{N n:Nat}(z:Array Value)(hn:n≤maxLen):ON N w.heap.size e (w.alloc (.cells (madeCells z (n*N)) e)) (.slice (some ⟨w.heap.size,0,none⟩) n n) n (fun t=>z[t%z.size]!):=by
 refine⟨k_,.inr ⟨w.heap.size,n,madeCells z (n*N),rfl,nr_ _,heap_alloc_new w _,nr_ _,hn,b3_,?_⟩⟩;rw[List.take_of_length_le b3_];apply List.ext_getElem b3_;intro s h1 h2;simp[madeCells]
theorem qhD{P:Program}(t e:TypeId)(i:TypeInfo)(z:Value)(ht:P.underlying t=some (.slice e))(hi:P.info? e=some i)(hz:i.zero=some z){N:Nat}{zc:Array Value}(hsize:i.size=N)(hzc:z.cells=zc)
 (kl kc:IntKind) (n:Nat) (hbytes:i.bytes*n≤281474976710656) (h63:n≤9223372036854775807) (w:World):
 (Instr.makeSlice t (.int kl (n:Int)) (.int kc (n:Int))).run P w=.ok (.slice (some ⟨w.heap.size,0,none⟩) n n) (w.alloc (.cells (madeCells zc (n*N)) e)):=by
 have hb':(i.bytes:Int)*(n:Int)≤281474976710656:=by
  have h:((i.bytes*n:Nat):Int)≤281474976710656:=a_;rwa[Int.natCast_mul] at h
 have hr:=run_make (P:=P) w t e i z ht hi hz kl kc n n a_ (Int.le_refl _) hb' a_;simp only[Int.toNat_natCast,hsize,hzc] at hr;exact hr
theorem O1.far{α:Type}{enc:α→Value}{B g:Nat}{e:TypeId}{w w':World}{v:Value}{l:List α}(h:O1 enc B e w v l)(hg:w.grownBy w' (some g))(hB:g<B):O1 enc B e w' v l:=
 h.grown hg (.inr fun e=>by have:=(h.lt _ e).1;omega)
theorem ON.far{N B n g:Nat}{e:TypeId}{w w':World}{v:Value}{F:Nat→Value}(h:ON N B e w v n F)(hg:w.grownBy w' (some g))(hB:g<B):ON N B e w' v n F:=
 h.grown hg (.inr fun e=>by have:=(h.lt _ e).1;omega)
theorem Dis.zero{G:Nat→Value}:Dis 0 G:=fun _ _ _ h=>by omega
section
variable {B B' C C':Nat} {e:TypeId} {w w':World} {v:Value}
theorem qct.far{g:Nat}{l:List (Int×Int)}(h:qct B C e w v l)(hg:w.grownBy w' (some g))(hB:g<B):qct B C e w' v l:=by
 obtain⟨h0,F,h1,h2⟩:=h;exact⟨h0,F,h1.far hg hB,h2⟩
end
theorem ON.mid{N B B1 B2 n:Nat}{e:TypeId}{w w':World}{v:Value}{F:Nat→Value}(h:ON N B e w v n F)(hb:Mid B1 B2 w w')(hB:B2≤B):ON N B e w' v n F:=by
 refine⟨h.1,?_⟩;rcases h.2 with hn|⟨k,cap,cur,hv,hk,hh,r⟩
 · exact .inl hn
 · exact .inr ⟨k,cap,cur,hv,hk,(hb.block k (Array.getElem?_eq_some_iff.1 hh).1 (.inr a_)).trans hh,r⟩
theorem qct.mid{B C B1 B2:Nat}{e:TypeId}{w w':World}{v:Value}{l:List (Int×Int)}(h:qct B C e w v l)(hb:Mid B1 B2 w w')(hB:B2≤B):qct B C e w' v l:=by
 obtain⟨h0,F,h1,h2⟩:=h;exact⟨h0,F,h1.mid hb hB,h2⟩
theorem qcA.mid{B C B1 B2:Nat}{w w':World}{v:Value}{ls:List (List (Int×Int))}(h:qcA B C w v ls)(hb:Mid B1 B2 w w')(hB:B2≤B):qcA B C w' v ls:=by
 obtain⟨h0,F,h1,h2,h3⟩:=h;exact⟨h0,F,h1.mid hb hB,fun j hj=>(h2 j hj).mid hb hB,h3⟩
theorem qbd.mid{B C B1 B2:Nat}{w w':World}{v:Value}{ps:List Pc}(h:qbd B C w v ps)(hb:Mid B1 B2 w w')(hB:B2≤B):qbd B C w' v ps:=by
 obtain⟨h0,F,h1,h2,h3⟩:=h;exact⟨h0,F,h1.mid hb hB,fun j hj=>⟨(h2 j hj).1,(h2 j hj).2.1,(h2 j hj).2.2.1,(h2 j hj).2.2.2.1,(h2 j hj).2.2.2.2.1,(h2 j hj).2.2.2.2.2.1.mid hb hB,(h2 j hj).2.2.2.2.2.2⟩,h3⟩
section
variable {T:List TypeId} {B C:Nat} {w w' w2:World}
theorem MK.grown{row:Option Nat}(h:w.grownBy w' row)(hr:∀ k,row=some k→B≤k∧k<C)(ht:∀ r,row=some r→∃ cur e fr,w.heap[r]? =some (.cells cur e fr)∧e ∉ T):MK T B C w w':=⟨Mid.grown h hr,qaA.of_grown h ht⟩
theorem ON.off{N n:Nat}{e:TypeId}{v:Value}{F:Nat→Value}(h:ON N B e w v n F)(he:e ∉ T):∀ r,v.ownBlock=some r→∃ cur e fr,w.heap[r]? =some (.cells cur e fr)∧e ∉ T:=fun r hr=>by obtain⟨cur,fr,hh⟩:=h.row r hr;exact⟨cur,e,fr,hh,he⟩
theorem qct.off{e:TypeId}{v:Value}{l:List (Int×Int)}(h:qct B C e w v l)(he:e ∉ T):∀ r,v.ownBlock=some r→∃ cur e fr,w.heap[r]? =some (.cells cur e fr)∧e ∉ T:=by obtain⟨_,F,h1,_⟩:=h;exact h1.off he
end
def NF:List TypeId:=[99,54,109,57,3]
def NN:List TypeId:=[9,4,50,99,54,109]
theorem qq7(a b:Int)(w:World):gV 161 #[.agg #[.int .i64 a,.int .i64 b]] w (.agg #[.int .i64 a,.int .i64 b]):=by
 go_enter Tryz.func161,Tryz.ntmps161
 go_wp2
 exact bodyPost_ret (v:=.agg #[.int .i64 a,.int .i64 b]) (by simp[results,Tryz.results161,go_sem]) rfl ⟨rfl,bH_⟩
theorem qrf(a b:Int)(w:World):gV 227 #[.agg #[.int .i64 a,.int .i64 b]] w (.agg #[.int .i64 a,.int .i64 b]):=by
 go_enter Tryz.func227,Tryz.ntmps227
 go_wp2
 exact bodyPost_ret (v:=.agg #[.int .i64 a,.int .i64 b]) (by simp[results,Tryz.results227,go_sem]) rfl ⟨rfl,bH_⟩
theorem qqI(l:List (Int×Int))(v:Value)(w:World)(hv:RP w v l)(hl:l.length≤1048576):
 Calls Tryz.prog 80 #[v] w fun e w'=>e=.returned (.slice (some ⟨w.heap.size,0,none⟩) l.length l.length)∧qct w.heap.size w'.heap.size 99 w' (.slice (some ⟨w.heap.size,0,none⟩) l.length l.length) l∧bB w w':=by
 have HV:=hI_ hv;obtain⟨A,c,rfl⟩:=hv.sl;clear hv;obtain⟨i0,hi,hz0,hz1,hz2⟩:=info_parts qfV;have hmk:=fun W=>qhD (P:=Tryz.prog) 24 99 i0 _ Tryz.underlying24 hi hz0 (N:=2) (zc:= #[.int .i64 0,.int .i64 0]) hz1 rfl .i64 .i64 l.length bS_ a_ W;have HN:=hI_ (ON.madeN (e:=99) (w:=w) (N:=2) (n:=l.length) #[.int .i64 0,.int .i64 0] s_);go_enter Tryz.func80,Tryz.ntmps80
 go_wp2
 clear hmk;go_loopw [4] (fun i wr=>∃ (k:Nat) (F:Nat→Value),k≤l.length∧i=.int .i64 k∧ON 2 w.heap.size 99 wr (.slice (some ⟨w.heap.size,0,none⟩) l.length l.length) l.length F∧(∀ j (hj:j<l.length),j<k→F (j*2)=.int .i64 l[j].1∧F (j*2+1)=.int .i64 l[j].2)∧bB w wr) (fun i _=>l.length-(intOf i).toNat)
 case atStart=>exact⟨0,_,Nat.zero_le _,rfl,HN.out,fun j _ h=>a_,(bR_ _ _).alloc (nr_ _) _⟩
 case round=>
  obtain⟨k,F,hk,rfl,hN,hF,hb⟩:=hrel;have HF:=hI_ hF;clear hF;by_cases hlt:k<l.length
  · obtain⟨b,o,rfl,hbs,e0,e1⟩:=(HV.out.below hb).at_ hlt;have hkl:(k:Int)<(l.length:Int):=a_;obtain⟨a,ha⟩:=nm_ (l[k]);rw[ha.out] at e0 e1;go_wp2_with fail
    refine(qq7 _ _ wr).mono ?_;rintro e w1 ⟨rfl,hb1⟩;have hN1:=hN.below hb1;have hb2:=hb.trans (hb1.mono hb.size);obtain⟨d0,f0⟩:=hN1.at_ (t:=k*2) a_;obtain⟨d1,f1⟩:=hN1.at_ (t:=k*2+1) a_;clear e0 e1 hb hb1 hN;go_wp2
    go_roundw
    case rel=>
     refine⟨k+1,_,a_,t_,(hN1.put2 hlt _ _).1,fun j hj hjk=> ?_,(hb2.setCell (p:=⟨w.heap.size,k*2,none⟩) (nr_ _) _).setCell (p:=⟨w.heap.size,k*2+1,none⟩) (nr_ _) _⟩;by_cases hjk2:j=k
     · subst hjk2;rw[ha.out];exact⟨by rw[if_neg a_,if_pos rfl],by rw[if_pos rfl]⟩
     · rw[if_neg a_,if_neg a_,if_neg a_,if_neg a_];exact HF.out j hj a_
    case measure=>simp[intOf];omega
  · obtain rfl:k=l.length:=a_;go_wp2
    go_ret;exact⟨rfl,⟨hN.up_,F,hN,fun j hj=>HF.out j hj hj⟩,hb⟩
theorem qqX(l:List (Int×Int))(v:Value)(w:World)(hv:RP w v l)(hl:l.length≤1048576):
 Calls Tryz.prog 162 #[v] w fun e w'=>e=.returned (.slice (some ⟨w.heap.size,0,none⟩) l.length l.length)∧qct w.heap.size w'.heap.size 109 w' (.slice (some ⟨w.heap.size,0,none⟩) l.length l.length) l∧bB w w':=by
 have HV:=hI_ hv;obtain⟨A,c,rfl⟩:=hv.sl;clear hv;obtain⟨i0,hi,hz0,hz1,hz2⟩:=info_parts qhs;have hmk:=fun W=>qhD (P:=Tryz.prog) 54 109 i0 _ Tryz.underlying54 hi hz0 (N:=2) (zc:= #[.int .i64 0,.int .i64 0]) hz1 rfl .i64 .i64 l.length bS_ a_ W;have HN:=hI_ (ON.madeN (e:=109) (w:=w) (N:=2) (n:=l.length) #[.int .i64 0,.int .i64 0] s_);go_enter Tryz.func162,Tryz.ntmps162
 go_wp2
 clear hmk;go_loopw [4] (fun i wr=>∃ (k:Nat) (F:Nat→Value),k≤l.length∧i=.int .i64 k∧ON 2 w.heap.size 109 wr (.slice (some ⟨w.heap.size,0,none⟩) l.length l.length) l.length F∧(∀ j (hj:j<l.length),j<k→F (j*2)=.int .i64 l[j].1∧F (j*2+1)=.int .i64 l[j].2)∧bB w wr) (fun i _=>l.length-(intOf i).toNat)
 case atStart=>exact⟨0,_,Nat.zero_le _,rfl,HN.out,fun j _ h=>a_,(bR_ _ _).alloc (nr_ _) _⟩
 case round=>
  obtain⟨k,F,hk,rfl,hN,hF,hb⟩:=hrel;have HF:=hI_ hF;clear hF;by_cases hlt:k<l.length
  · obtain⟨b,o,rfl,hbs,e0,e1⟩:=(HV.out.below hb).at_ hlt;have hkl:(k:Int)<(l.length:Int):=a_;obtain⟨a,ha⟩:=nm_ (l[k]);rw[ha.out] at e0 e1;go_wp2_with fail
    refine(qrf _ _ wr).mono ?_;rintro e w1 ⟨rfl,hb1⟩;have hN1:=hN.below hb1;have hb2:=hb.trans (hb1.mono hb.size);obtain⟨d0,f0⟩:=hN1.at_ (t:=k*2) a_;obtain⟨d1,f1⟩:=hN1.at_ (t:=k*2+1) a_;clear e0 e1 hb hb1 hN;go_wp2
    go_roundw
    case rel=>
     refine⟨k+1,_,a_,t_,(hN1.put2 hlt _ _).1,fun j hj hjk=> ?_,(hb2.setCell (p:=⟨w.heap.size,k*2,none⟩) (nr_ _) _).setCell (p:=⟨w.heap.size,k*2+1,none⟩) (nr_ _) _⟩;by_cases hjk2:j=k
     · subst hjk2;rw[ha.out];exact⟨by rw[if_neg a_,if_pos rfl],by rw[if_pos rfl]⟩
     · rw[if_neg a_,if_neg a_,if_neg a_,if_neg a_];exact HF.out j hj a_
    case measure=>simp[intOf];omega
  · obtain rfl:k=l.length:=a_;go_wp2
    go_ret;exact⟨rfl,⟨hN.up_,F,hN,fun j hj=>HF.out j hj hj⟩,hb⟩
section
variable {B C:Nat} {e:TypeId} {w:World} {v:Value} {p:Addr}
theorem qa7.setb{fs:List Fd}(h:qa7 B C w v fs)(hp:p.block<B)(u:Value):qa7 B C (w.setCell p u) v fs:=by
 obtain⟨h0,F,h1,h2,h3⟩:=h;exact⟨h0,F,h1.far (qaR w p u) hp,fun j hj=>⟨(h2 j hj).1,(h2 j hj).2.1,(h2 j hj).2.2.1,(h2 j hj).2.2.2.1,(h2 j hj).2.2.2.2.1.far (qaR w p u) hp,(h2 j hj).2.2.2.2.2⟩,h3⟩
theorem qct.setb{l:List (Int×Int)}(h:qct B C e w v l)(hp:p.block<B)(u:Value):qct B C e (w.setCell p u) v l:=h.far (qaR w p u) hp
theorem qcA.setb{ls:List (List (Int×Int))}(h:qcA B C w v ls)(hp:p.block<B)(u:Value):qcA B C (w.setCell p u) v ls:=by
 obtain⟨h0,F,h1,h2,h3⟩:=h;exact⟨h0,F,h1.far (qaR w p u) hp,fun j hj=>(h2 j hj).setb hp u,h3⟩
theorem qbd.setb{ps:List Pc}(h:qbd B C w v ps)(hp:p.block<B)(u:Value):qbd B C (w.setCell p u) v ps:=by
 obtain⟨h0,F,h1,h2,h3⟩:=h;exact⟨h0,F,h1.far (qaR w p u) hp,fun j hj=>⟨(h2 j hj).1,(h2 j hj).2.1,(h2 j hj).2.2.1,(h2 j hj).2.2.2.1,(h2 j hj).2.2.2.2.1,(h2 j hj).2.2.2.2.2.1.far (qaR w p u) hp,(h2 j hj).2.2.2.2.2.2⟩,h3⟩
end
theorem qrq(l:List Int)(v:Value)(w:World)(hv:RI w v l)(hl:l.length≤1048576):Calls Tryz.prog 228 #[v] w fun e w'=>∃ A c,e=.returned (.slice A l.length c)∧O1 (Value.int .i64) w.heap.size 3 w' (.slice A l.length c) l∧bB w w':=
 (qq6 l v w hv hl).mono fun _ _ ⟨he,ho,hb⟩=>⟨_,_,he,ho,hb⟩
theorem qqJ(p:Pc)(v:Value)(w:World)(hp:RI w v p.prf)(h1:p.prf.length≤1048576):
 Calls Tryz.prog 163 #[.agg #[.int .i64 p.fr,.int .i64 p.to_,.int .i64 p.len,.int .i64 p.idx,.string p.txt,v]] w fun e w'=>∃ u,e=.returned (.agg #[.int .i64 p.fr,.int .i64 p.to_,.int .i64 p.len,.int .i64 p.idx,.string p.txt,u])∧O1 (Value.int .i64) w.heap.size 3 w' u p.prf∧bB w w':=by
 have HFA:=hI_ hp;clear hp;go_enter Tryz.func163,Tryz.ntmps163
 go_wp2_with fail
 refine(qrq p.prf _ _ (HFA.out.below ?hbx) h1).mono ?_
 case hbx=>exact(by repeat(first|exact bR_ _ _|refine Below.setCell ?_ bG_ _|refine Below.alloc ?_ bG_ _))
 rintro e w2 ⟨uA,uc,rfl,ho2,hb2⟩;have HQ2:Hid (bB w w2):=hI_ (Below.trans bH_ (hb2.mono n_));have hcc2:=qeY hb2;have hs2:=hb2.size;simp at hs2;have l20:w.heap.size<w2.heap.size:=a_;have l21:w.heap.size+1<w2.heap.size:=a_;have l22:w.heap.size+1+1<w2.heap.size:=a_;have HO2:=hI_ ho2;clear ho2;go_wp2
 refine bodyPost_ret (v:=.agg #[.int .i64 p.fr,.int .i64 p.to_,.int .i64 p.len,.int .i64 p.idx,.string p.txt,.slice uA p.prf.length uc]) (by simp[results,Tryz.results163,go_sem,hcc2]) rfl ⟨_,rfl,?_,?_⟩
 · have ho:=HO2.out;simp only[World.size_alloc] at ho;refine O1.mono (B:=w.heap.size+1+1+1) ?_ a_;have b1:w.heap.size+1<w.heap.size+1+1+1:=a_;have b2:w.heap.size+1+1<w.heap.size+1+1+1:=a_;refine O1.setb (O1.setb (O1.setb (O1.setb (O1.setb (O1.setb (O1.setb ?_ ?_ _) ?_ _) ?_ _) ?_ _) ?_ _) ?_ _) ?_ _
   · exact ho
   · exact b2
   all_goals exact b1
 · have c1:w.heap.size≤w.heap.size+1:=a_;have c2:w.heap.size≤w.heap.size+1+1:=a_;refine Below.setCell (Below.setCell (Below.setCell (Below.setCell (Below.setCell (Below.setCell (Below.setCell ?_ ?_ _) ?_ _) ?_ _) ?_ _) ?_ _) ?_ _) ?_ _
   · exact HQ2.out
   · exact c2
   all_goals exact c1
theorem qqH(l:List Fd)(v:Value)(w:World)(hv:qa6 w v l)(hl:l.length≤1048576)(hsz:∀ j (hj:j<l.length),l[j].bl.length≤1048576∧l[j].hv.length≤1048576):
 Calls Tryz.prog 79 #[v] w fun e w'=>e=.returned (.slice (some ⟨w.heap.size,0,none⟩) l.length l.length)∧qa7 w.heap.size w'.heap.size w' (.slice (some ⟨w.heap.size,0,none⟩) l.length l.length) l∧bB w w':=by
 have HV:=hI_ hv;have HSZ:=hI_ hsz;obtain⟨A,c,rfl⟩:=hv.sl;clear hv hsz;obtain⟨i0,hi,hz0,hz1,hz2⟩:=info_parts qfU;have hmk:=fun W=>qhD (P:=Tryz.prog) 23 50 i0 _ Tryz.underlying23 hi hz0 (N:=6) (zc:= #[.int .i64 0,.int .i64 0,.int .i64 0,.int .i64 0,.slice none 0 0,.slice none 0 0]) hz1 rfl .i64 .i64 l.length bS_ a_ W;have HN:=hI_ (ON.madeN (e:=50) (w:=w) (N:=6) (n:=l.length) #[.int .i64 0,.int .i64 0,.int .i64 0,.int .i64 0,.slice none 0 0,.slice none 0 0] s_);have HG:Hid (w.heap.size<w.heap.size+1):=hI_ (Nat.lt_succ_self _);go_enter Tryz.func79,Tryz.ntmps79
 go_wp2
 clear hmk;go_loopw [4] (fun i wr=>∃ (k:Nat) (F:Nat→Value),k≤l.length∧i=.int .i64 k∧ON 6 w.heap.size 50 wr (.slice (some ⟨w.heap.size,0,none⟩) l.length l.length) l.length F∧(∀ j (hj:j<l.length),j<k→F (j*6)=.int .i64 l[j].pub∧F (j*6+1)=.int .i64 l[j].hd.len∧F (j*6+2)=.int .i64 l[j].hd.dg∧F (j*6+3)=.int .i64 l[j].hd.sg∧qaK (w.heap.size+1) wr l[j] (F (j*6+4)) (F (j*6+5)))∧(Dis k (fun j=>F (j*6+4))∧Dis k (fun j=>F (j*6+5)))∧bB w wr∧w.heap.size<wr.heap.size) (fun i _=>l.length-(intOf i).toNat)
 case atStart=>exact⟨0,_,Nat.zero_le _,rfl,HN.out,fun j _ h=>a_,⟨Dis.zero,Dis.zero⟩,(bR_ _ _).alloc (nr_ _) _,k_⟩
 case round=>
  obtain⟨k,F,hk,rfl,hN,hF,hdis,hb,hsz⟩:=hrel;have HF:=hI_ hF;have HD:=hI_ hdis;clear hF hdis;by_cases hlt:k<l.length
  · obtain⟨b,o,xx,yy,rfl,hbs,e0,e1,e2,e3,e4,e5,e6⟩:=(HV.out.below hb).at_ hlt;have HE:=hI_ e6;clear e6;have hkl:(k:Int)<(l.length:Int):=a_;have HZK:=hI_ (HSZ.out k hlt);obtain⟨a,ha⟩:=nm_ (l[k]);rw[ha.out] at e0 e1 e2 e3 HE HZK;go_wp2_with fail
    refine(qqY a _ _ wr HE.out HZK.out.1 HZK.out.2).mono ?_;rintro e w1 ⟨ub,uh,rfl,ho1,hb1⟩;obtain⟨uA,uc,rfl⟩:=ho1.bl.sl;obtain⟨uB,ud,rfl⟩:=ho1.hv.sl;have hN1:=hN.below hb1;have hb2:=hb.trans (hb1.mono hb.size);have hsz1:w.heap.size<w1.heap.size:=nL_ hsz hb1.size;obtain⟨d0,f0⟩:=hN1.at_ (t:=k*6) a_;obtain⟨d1,f1⟩:=hN1.at_ (t:=k*6+1) a_;obtain⟨d2,f2⟩:=hN1.at_ (t:=k*6+2) a_;obtain⟨d3,f3⟩:=hN1.at_ (t:=k*6+3) a_;obtain⟨d4,f4⟩:=hN1.at_ (t:=k*6+4) a_;obtain⟨d5,f5⟩:=hN1.at_ (t:=k*6+5) a_;have HB1:=hI_ hb1;have HSW:=hI_ (Nat.succ_le_of_lt hsz:w.heap.size+1≤wr.heap.size);clear e0 e1 e2 e3 e4 e5 hb hb1 hN hsz;go_wp2
    go_roundw
    case rel=>
     have hp6:=fun x0 x1 x2 x3 x4 x5=>hN1.put6 hlt x0 x1 x2 x3 x4 x5;refine⟨k+1,_,a_,t_,(hp6 _ _ _ _ _ _).1,fun j hj hjk=> ?_,⟨Dis.push (m:=wr.heap.size) HD.out.1 (fun j hj=>by rw[if_neg a_,if_neg a_,if_neg a_,if_neg a_,if_neg a_,if_neg a_]) (fun j hj b hb=>((HF.out j a_ hj).2.2.2.2.bl.lt b hb).2) (fun b hb=>by rw[if_neg a_,if_pos rfl] at hb;exact(ho1.bl.lt b hb).1),Dis.push (m:=wr.heap.size) HD.out.2 (fun j hj=>by rw[if_neg a_,if_neg a_,if_neg a_,if_neg a_,if_neg a_,if_neg a_]) (fun j hj b hb=>((HF.out j a_ hj).2.2.2.2.hv.lt b hb).2) (fun b hb=>by rw[if_pos rfl] at hb;exact(ho1.hv.lt b hb).1)⟩,?_,?_⟩
     · by_cases hjk2:j=k
       · subst hjk2;rw[ha.out];rw[if_neg a_,if_neg a_,if_neg a_,if_neg a_,if_neg a_,if_pos rfl];rw[if_neg a_,if_neg a_,if_neg a_,if_neg a_,if_pos rfl];rw[if_neg a_,if_neg a_,if_neg a_,if_pos rfl];rw[if_neg a_,if_neg a_,if_pos rfl];rw[if_neg a_,if_pos rfl,if_pos rfl];exact⟨rfl,rfl,rfl,rfl,(ho1.mono HSW.out).far (hp6 _ _ _ _ _ _).2 HG.out⟩
       · obtain⟨g0,g1,g2,g3,g4⟩:=HF.out j hj a_;rw[if_neg a_,if_neg a_,if_neg a_,if_neg a_,if_neg a_,if_neg a_,if_neg a_,if_neg a_,if_neg a_,if_neg a_,if_neg a_,if_neg a_,if_neg a_,if_neg a_,if_neg a_,if_neg a_,if_neg a_,if_neg a_,if_neg a_,if_neg a_,if_neg a_,if_neg a_,if_neg a_,if_neg a_,if_neg a_,if_neg a_,if_neg a_,if_neg a_,if_neg a_,if_neg a_,if_neg a_,if_neg a_,if_neg a_,if_neg a_,if_neg a_,if_neg a_];exact⟨g0,g1,g2,g3,(g4.below HB1.out).far (hp6 _ _ _ _ _ _).2 HG.out⟩
     · exact(((((hb2.setCell (p:=⟨w.heap.size,k*6,none⟩) (nr_ _) _).setCell (p:=⟨w.heap.size,k*6+1,none⟩) (nr_ _) _).setCell (p:=⟨w.heap.size,k*6+2,none⟩) (nr_ _) _).setCell (p:=⟨w.heap.size,k*6+3,none⟩) (nr_ _) _).setCell (p:=⟨w.heap.size,k*6+4,none⟩) (nr_ _) _).setCell (p:=⟨w.heap.size,k*6+5,none⟩) (nr_ _) _
     · simpa using hsz1
    case measure=>simp[intOf];omega
  · obtain rfl:k=l.length:=a_;go_wp2
    go_ret;exact⟨rfl,⟨hN.up_,F,hN,fun j hj=>⟨(HF.out j hj hj).1,(HF.out j hj hj).2.1,(HF.out j hj hj).2.2.1,(HF.out j hj hj).2.2.2.1,(HF.out j hj hj).2.2.2.2.mono (Nat.le_succ _),(HF.out j hj hj).2.2.2.2.bl.up_,(HF.out j hj hj).2.2.2.2.hv.up_⟩,HD.out⟩,hb⟩
theorem qqw(l:List Pc)(v:Value)(w:World)(hv:qbx w v l)(hl:l.length≤1048576)(hsz:∀ j (hj:j<l.length),l[j].prf.length≤1048576):
 Calls Tryz.prog 82 #[v] w fun e w'=>e=.returned (.slice (some ⟨w.heap.size,0,none⟩) l.length l.length)∧qbd w.heap.size w'.heap.size w' (.slice (some ⟨w.heap.size,0,none⟩) l.length l.length) l∧bB w w':=by
 have HV:=hI_ hv;have HSZ:=hI_ hsz;obtain⟨A,c,rfl⟩:=hv.sl;clear hv hsz;obtain⟨i0,hi,hz0,hz1,hz2⟩:=info_parts qd8;have hmk:=fun W=>qhD (P:=Tryz.prog) 26 57 i0 _ Tryz.underlying26 hi hz0 (N:=6) (zc:= #[.int .i64 0,.int .i64 0,.int .i64 0,.int .i64 0,.string ⟨#[]⟩,.slice none 0 0]) hz1 rfl .i64 .i64 l.length bS_ a_ W;have HN:=hI_ (ON.madeN (e:=57) (w:=w) (N:=6) (n:=l.length) #[.int .i64 0,.int .i64 0,.int .i64 0,.int .i64 0,.string ⟨#[]⟩,.slice none 0 0] s_);have HG:Hid (w.heap.size<w.heap.size+1):=hI_ (Nat.lt_succ_self _);go_enter Tryz.func82,Tryz.ntmps82
 go_wp2
 clear hmk;go_loopw [4] (fun i wr=>∃ (k:Nat) (F:Nat→Value),k≤l.length∧i=.int .i64 k∧ON 6 w.heap.size 57 wr (.slice (some ⟨w.heap.size,0,none⟩) l.length l.length) l.length F∧(∀ j (hj:j<l.length),j<k→F (j*6)=.int .i64 l[j].fr∧F (j*6+1)=.int .i64 l[j].to_∧F (j*6+2)=.int .i64 l[j].len∧F (j*6+3)=.int .i64 l[j].idx∧F (j*6+4)=.string l[j].txt∧O1 (Value.int .i64) (w.heap.size+1) 3 wr (F (j*6+5)) l[j].prf)∧Dis k (fun j=>F (j*6+5))∧bB w wr∧w.heap.size<wr.heap.size) (fun i _=>l.length-(intOf i).toNat)
 case atStart=>exact⟨0,_,Nat.zero_le _,rfl,HN.out,fun j _ h=>a_,Dis.zero,(bR_ _ _).alloc (nr_ _) _,k_⟩
 case round=>
  obtain⟨k,F,hk,rfl,hN,hF,hdis,hb,hsz⟩:=hrel;have HF:=hI_ hF;have HD:=hI_ hdis;clear hF hdis;by_cases hlt:k<l.length
  · obtain⟨b,o,xx,rfl,hbs,e0,e1,e2,e3,e4,e5,e6⟩:=(HV.out.below hb).at_ hlt;have HE:=hI_ e6;clear e6;have hkl:(k:Int)<(l.length:Int):=a_;have HZK:=hI_ (HSZ.out k hlt);obtain⟨a,ha⟩:=nm_ (l[k]);rw[ha.out] at e0 e1 e2 e3 e4 HE HZK;go_wp2_with fail
    refine(qqJ a _ wr HE.out HZK.out).mono ?_;rintro e w1 ⟨ub,rfl,ho1,hb1⟩;obtain⟨uA,uc,rfl⟩:=ho1.sl;have hN1:=hN.below hb1;have hb2:=hb.trans (hb1.mono hb.size);have hsz1:w.heap.size<w1.heap.size:=nL_ hsz hb1.size;obtain⟨d0,f0⟩:=hN1.at_ (t:=k*6) a_;obtain⟨d1,f1⟩:=hN1.at_ (t:=k*6+1) a_;obtain⟨d2,f2⟩:=hN1.at_ (t:=k*6+2) a_;obtain⟨d3,f3⟩:=hN1.at_ (t:=k*6+3) a_;obtain⟨d4,f4⟩:=hN1.at_ (t:=k*6+4) a_;obtain⟨d5,f5⟩:=hN1.at_ (t:=k*6+5) a_;have HB1:=hI_ hb1;have HSW:=hI_ (Nat.succ_le_of_lt hsz:w.heap.size+1≤wr.heap.size);clear e0 e1 e2 e3 e4 e5 hb hb1 hN hsz;go_wp2
    go_roundw
    case rel=>
     have hp6:=fun x0 x1 x2 x3 x4 x5=>hN1.put6 hlt x0 x1 x2 x3 x4 x5;refine⟨k+1,_,a_,t_,(hp6 _ _ _ _ _ _).1,fun j hj hjk=> ?_,Dis.push (m:=wr.heap.size) HD.out (fun j hj=>by rw[if_neg a_,if_neg a_,if_neg a_,if_neg a_,if_neg a_,if_neg a_]) (fun j hj b hb=>((HF.out j a_ hj).2.2.2.2.2.lt b hb).2) (fun b hb=>by rw[if_pos rfl] at hb;exact(ho1.lt b hb).1),?_,?_⟩
     · by_cases hjk2:j=k
       · subst hjk2;rw[ha.out];rw[if_neg a_,if_neg a_,if_neg a_,if_neg a_,if_neg a_,if_pos rfl];rw[if_neg a_,if_neg a_,if_neg a_,if_neg a_,if_pos rfl];rw[if_neg a_,if_neg a_,if_neg a_,if_pos rfl];rw[if_neg a_,if_neg a_,if_pos rfl];rw[if_neg a_,if_pos rfl,if_pos rfl];exact⟨rfl,rfl,rfl,rfl,rfl,(ho1.mono HSW.out).far (hp6 _ _ _ _ _ _).2 HG.out⟩
       · obtain⟨g0,g1,g2,g3,g4,g5⟩:=HF.out j hj a_;rw[if_neg a_,if_neg a_,if_neg a_,if_neg a_,if_neg a_,if_neg a_,if_neg a_,if_neg a_,if_neg a_,if_neg a_,if_neg a_,if_neg a_,if_neg a_,if_neg a_,if_neg a_,if_neg a_,if_neg a_,if_neg a_,if_neg a_,if_neg a_,if_neg a_,if_neg a_,if_neg a_,if_neg a_,if_neg a_,if_neg a_,if_neg a_,if_neg a_,if_neg a_,if_neg a_,if_neg a_,if_neg a_,if_neg a_,if_neg a_,if_neg a_,if_neg a_];exact⟨g0,g1,g2,g3,g4,(g5.below HB1.out).far (hp6 _ _ _ _ _ _).2 HG.out⟩
     · exact(((((hb2.setCell (p:=⟨w.heap.size,k*6,none⟩) (nr_ _) _).setCell (p:=⟨w.heap.size,k*6+1,none⟩) (nr_ _) _).setCell (p:=⟨w.heap.size,k*6+2,none⟩) (nr_ _) _).setCell (p:=⟨w.heap.size,k*6+3,none⟩) (nr_ _) _).setCell (p:=⟨w.heap.size,k*6+4,none⟩) (nr_ _) _).setCell (p:=⟨w.heap.size,k*6+5,none⟩) (nr_ _) _
     · simpa using hsz1
    case measure=>simp[intOf];omega
  · obtain rfl:k=l.length:=a_;go_wp2
    go_ret;exact⟨rfl,⟨hN.up_,F,hN,fun j hj=>⟨(HF.out j hj hj).1,(HF.out j hj hj).2.1,(HF.out j hj hj).2.2.1,(HF.out j hj hj).2.2.2.1,(HF.out j hj hj).2.2.2.2.1,(HF.out j hj hj).2.2.2.2.2.mono (Nat.le_succ _),(HF.out j hj hj).2.2.2.2.2.up_⟩,HD.out⟩,hb⟩
theorem qqF(l:List (List (Int×Int)))(v:Value)(w:World)(hv:qdh w v l)(hl:l.length≤1048576)(hsz:∀ j (hj:j<l.length),l[j].length≤1048576):
 Calls Tryz.prog 81 #[v] w fun e w'=>e=.returned (.slice (some ⟨w.heap.size,0,none⟩) l.length l.length)∧qcA w.heap.size w'.heap.size w' (.slice (some ⟨w.heap.size,0,none⟩) l.length l.length) l∧bB w w':=by
 have HV:=hI_ hv;have HSZ:=hI_ hsz;obtain⟨A,c,rfl⟩:=hv.sl;clear hv hsz;obtain⟨i0,hi,hz0,hz1,hz2⟩:=info_parts qeL;have hmk:=fun W=>qhD (P:=Tryz.prog) 25 54 i0 _ Tryz.underlying25 hi hz0 (N:=1) (zc:= #[.slice none 0 0]) hz1 rfl .i64 .i64 l.length bS_ a_ W;have HN:=hI_ (ON.madeN (e:=54) (w:=w) (N:=1) (n:=l.length) #[.slice none 0 0] s_);have hmul:l.length*1=l.length:=Nat.mul_one _;have HMUL:=hI_ hmul;have HG:Hid (w.heap.size<w.heap.size+1):=hI_ (Nat.lt_succ_self _);clear hmul;go_enter Tryz.func81,Tryz.ntmps81
 go_wp2
 clear hmk;rw[Nat.mul_one] at HN;go_loopw [4] (fun i wr=>∃ (k:Nat) (F:Nat→Value),k≤l.length∧i=.int .i64 k∧ON 1 w.heap.size 54 wr (.slice (some ⟨w.heap.size,0,none⟩) l.length l.length) l.length F∧(∀ j (hj:j<l.length),j<k→qct (w.heap.size+1) wr.heap.size 109 wr (F j) l[j])∧Dis k F∧bB w wr∧w.heap.size<wr.heap.size) (fun i _=>l.length-(intOf i).toNat)
 case atStart=>exact⟨0,_,Nat.zero_le _,rfl,HN.out,fun j _ h=>a_,Dis.zero,(bR_ _ _).alloc (nr_ _) _,k_⟩
 case round=>
  obtain⟨k,F,hk,rfl,hN,hF,hdis,hb,hsz⟩:=hrel;have HF:=hI_ hF;have HD:=hI_ hdis;clear hF hdis;by_cases hlt:k<l.length
  · obtain⟨b,o,xx,rfl,hbs,e0,e6⟩:=(HV.out.below hb).at_ hlt;have HE:=hI_ e6;clear e6;have hkl:(k:Int)<(l.length:Int):=a_;have HZK:=hI_ (HSZ.out k hlt);obtain⟨a,ha⟩:=nm_ (l[k]);rw[ha.out] at HE HZK;go_wp2_with fail
    refine(qqX a _ wr HE.out HZK.out).mono ?_;rintro e w1 ⟨rfl,ho1,hb1⟩;obtain⟨A1,HA1⟩:=nm_ (some (⟨wr.heap.size,0,none⟩:Addr));rw[HA1.out] at ho1 ⊢;have hN1:=hN.below hb1;have hb2:=hb.trans (hb1.mono hb.size);have hsz1:w.heap.size<w1.heap.size:=nL_ hsz hb1.size;obtain⟨d0,f0⟩:=hN1.at_ (t:=k) a_;have HB1:=hI_ hb1;have HO1:=hI_ ho1;have HSW:=hI_ (Nat.succ_le_of_lt hsz:w.heap.size+1≤wr.heap.size);clear e0 hb hb1 hN hsz ho1;go_wp2
    go_roundw
    case rel=>
     have hp1:=hN1.setAt (t:=k) a_ (.slice A1 a.length a.length);refine⟨k+1,_,a_,t_,hp1.1,fun j hj hjk=> ?_,Dis.push (m:=wr.heap.size) HD.out (fun j hj=>by rw[if_neg a_]) (fun j hj b hb=>((HF.out j a_ hj).lt b hb).2) (fun b hb=>by rw[if_pos rfl] at hb;exact(HO1.out.lt b hb).1),hb2.setCell (p:=⟨w.heap.size,k,none⟩) (nr_ _) _,by simpa using hsz1⟩;by_cases hjk2:j=k
     · subst hjk2;rw[ha.out,if_pos rfl];exact((HO1.out.mono HSW.out (nr_ _)).far hp1.2 HG.out).mono (nr_ _) k_
     · rw[if_neg hjk2];exact(((HF.out j hj a_).below HB1.out).far hp1.2 HG.out).mono (nr_ _) (by simp only[World.size_setCell];exact HB1.out.size)
    case measure=>simp[intOf];omega
  · obtain rfl:k=l.length:=a_;go_wp2
    go_ret;exact⟨rfl,⟨hN.up_,F,hN,fun j hj=>(HF.out j hj hj).mono (Nat.le_succ _) (nr_ _),HD.out⟩,hb⟩
section
variable {B B' C C' q o:Nat} {w w':World} {x:Wd} {vF vL vA vN:Value} {s b:Int}
theorem BX.of(h:w.heap[q]? =some (.cells #[.int .i64 s,.int .i64 b,vF,vL,vA,vN] 28 (0,0))):BX q 0 w s b vF vL vA vN:=by
 obtain⟨c0,c1,c2,c3,c4,c5,_⟩:=qaa h;exact⟨c0,c1,c2,c3,c4,c5,_,_,h,e_⟩
end
theorem O1.set6{α:Type}{enc:α→Value}{B q:Nat}{e:TypeId}{w:World}{v:Value}{l:List α}(h:O1 enc B e w v l)(hq:q<B)(x0 x1 x2 x3 x4 x5:Value):O1 enc B e ((((((w.setCell ⟨q,0,none⟩ x0).setCell ⟨q,1,none⟩ x1).setCell ⟨q,2,none⟩ x2).setCell ⟨q,3,none⟩ x3).setCell ⟨q,4,none⟩ x4).setCell ⟨q,5,none⟩ x5) v l:=
 (((((h.setb hq _).setb hq _).setb hq _).setb hq _).setb hq _).setb hq _
theorem HW.only{g q z:Nat}{W0 w w':World}{f:Fd}{vb vh:Value}{h:Hd}{gv:Value}{gl:List Int}(k:HW g q z W0 w f vb vh h gv gl)(ho:qbb g w w')(hg:W0.heap.size≤g)(hgl:g<w.heap.size)(hq:g≠q)(hz:g≠z):HW g q z W0 w' f vb vh h gv gl:=
 ⟨k.fb.only ho (Nat.lt_succ_self g) hq,(ho.block z (Array.getElem?_eq_some_iff.1 k.hd).1 (fun e=>hz (Option.some.inj e).symm)).trans k.hd,k.gr.only ho (Nat.lt_succ_self g),k.bel.trans (ho.below hg hgl)⟩
end Go.Proofs.YtekaaekpdebloaaGreatDoor
namespace Go.Proofs.YtekaaekpdebloaaGreatDoor
open Go.RowKit
attribute [local go_sem ↓] Go.wp_at_zero Go.wp_at_succ

section
variable {B g gF cF:Nat} {y:Wd} {w0 w w':World} {vL vA:Value}
theorem qel.ne(h:qel B g gF cF y w0 w vL vA):g≠gF:=by
 obtain⟨_,F,h1,_⟩:=h.p.F;exact fun e=>h1.nbox h.box e_ ca_
end
theorem qtE(x:Wd)(ev:Ev)(vF vL vA vN:Value)(w:World)(hx:WdS w x vF vL vA vN)(ht:∀ j (hj:j<x.net.length),x.net[j].txt.size≤maxLen)(hte:ev.txt.size≤maxLen):
 Calls Tryz.prog 16 #[.agg #[.int .i64 x.sec,.int .i64 x.bad,vF,vL,vA,vN],.agg (evC ev)] w (qhd w (quj x ev)):=by
 obtain⟨k,a,b,c,t⟩:=ev;unfold evC;simp only;have HTE:=hI_ hte;obtain⟨W0,HW0⟩:=nm_ (((w.alloc (.cells #[.int .i64 x.sec,.int .i64 x.bad,vF,vL,vA,vN] 28)).alloc (.cells #[.int .i64 k,.int .i64 a,.int .i64 b,.int .i64 c,.string t] 30)).alloc (.cells #[.int .i64 0,.int .i64 0,.slice none 0 0,.slice none 0 0,.slice none 0 0,.slice none 0 0] 28));have HB0:Hid (bB w W0):=hI_ R_;have hs0:w.heap.size+3=W0.heap.size:=by rw[←HW0.out];simp
 have HP0:Hid (W0.heap[w.heap.size]? =some (.cells #[.int .i64 x.sec,.int .i64 x.bad,vF,vL,vA,vN] 28 (0,0))):=hI_ T_;have HE0:Hid (W0.heap[w.heap.size+1]? =some (.cells #[.int .i64 k,.int .i64 a,.int .i64 b,.int .i64 c,.string t] 30 (0,0))):=hI_ ad_;have HZ0:Hid (W0.heap[w.heap.size+1+1]? =some (.cells #[.int .i64 0,.int .i64 0,.slice none 0 0,.slice none 0 0,.slice none 0 0,.slice none 0 0] 28 (0,0))):=hI_ D_;have hl0:w.heap.size<W0.heap.size:=a_;have hl1:w.heap.size+1<W0.heap.size:=a_;have hl2:w.heap.size+1+1<W0.heap.size:=a_;have HX0:Hid (WdS W0 x vF vL vA vN):=hI_ (hx.below HB0.out);have HT:=hI_ ht;clear hs0 hx ht hte;obtain⟨p0,p1,p2,p3,p4,p5,pf⟩:=qaa HP0.out;go_enter Tryz.func16,Tryz.ntmps16
 go_upto_region 1 with fail
 rw[HW0.out];go_wp2_with fail
 refine(qdO x _ _ _ _ W0 HX0.out.r HT.out).mono ?_;rintro e w1 ⟨rfl,hb1⟩;clear p0 p1 p2 p3 p4 p5 pf;have HP1:=hI_ ((hb1.block _ hl0).trans HP0.out);have HE1:=hI_ ((hb1.block _ hl1).trans HE0.out);have HZ1:=hI_ ((hb1.block _ hl2).trans HZ0.out);have hm2:=nL_ hl2 hb1.size;have HB1:=hI_ (HB0.out.trans (hb1.mono HB0.out.size));have HX1:=hI_ (HX0.out.below hb1);clear hb1;obtain⟨bv,HBV⟩:=nm_ (qcc x);rw[HBV.out];cases bv
 · obtain⟨y0,y1,y2,y3,y4,y5,yf⟩:=qaa HZ1.out;have HR:=hI_ (qtM (e:=⟨k,a,b,c,t⟩) HBV.out);have HZP:=(WdP.zero (B:=0) (C:=0) (w:=((((((w1.setCell ⟨w.heap.size+1+1,0,none⟩ (.int .i64 0)).setCell ⟨w.heap.size+1+1,1,none⟩ (.int .i64 0)).setCell ⟨w.heap.size+1+1,2,none⟩ (.slice none 0 0)).setCell ⟨w.heap.size+1+1,3,none⟩ (.slice none 0 0)).setCell ⟨w.heap.size+1+1,4,none⟩ (.slice none 0 0)).setCell ⟨w.heap.size+1+1,5,none⟩ (.slice none 0 0)))).st;have HZP:=hI_ HZP;go_wp2_with fail
   refine bodyPost_ret (v:=.agg #[.int .i64 0,.int .i64 0,.slice none 0 0,.slice none 0 0,.slice none 0 0,.slice none 0 0]) (by simp[results,Tryz.results16,go_sem,y0,y1,y2,y3,y4,y5]) rfl ?_;rw[HR.out];exact⟨_,_,_,_,rfl,HZP.out,qae HB1.out a_ _ _ _ _ _ _⟩
 have HWV:Hid (WV x):=hI_ (qcq.1 HBV.out);have HR:=hI_ (qr7 (e:=⟨k,a,b,c,t⟩) HBV.out);obtain⟨p0,p1,p2,p3,p4,p5,pf⟩:=qaa HP1.out;obtain⟨c0,c1,c2,c3,c4,cf⟩:=qrL HE1.out;have HYV:Hid (WV (wdo x ⟨k,a,b,c,t⟩)):=hI_ (HWV.out.do_ ⟨k,a,b,c,t⟩);have HDO:=hI_ (qnJ x ⟨k,a,b,c,t⟩ vF vL vA vN w1 HX1.out HWV.out.wi a_ HTE.out);obtain⟨y,HY⟩:=nm_ (wdo x ⟨k,a,b,c,t⟩);rw[HY.out] at HYV HDO HR;have HSM:=hI_ (HYV.out.wi.sml a_);go_wp2_with fail
 refine HDO.out.mono ?_;rintro e w2 ⟨uF,uL,uA,uN,rfl,hs2,hb2⟩;have HB2:=hI_ hb2;have HS2:=hI_ hs2;clear hb2 hs2 p0 p1 p2 p3 p4 p5 pf c0 c1 c2 c3 c4 cf;go_wp2_with fail
 refine(qcO y _ _ _ _ w2 HS2.out HSM.out).mono ?_;rintro e w3 ⟨vF',vL',vA',vN',rfl,hc3,hb3⟩;have hs3:=hc3.s;obtain⟨⟨A1,c1,rfl⟩,⟨A2,c2,rfl⟩,⟨A3,c3,rfl⟩,⟨A4,c4,rfl⟩⟩:=hs3.sl;have hb13:bB w1 w3:=HB2.out.trans (hb3.mono HB2.out.size);have HZ3:=hI_ ((hb13.block _ hm2).trans HZ1.out);have HB3:=hI_ (HB1.out.trans (hb13.mono HB1.out.size));have HS3:=hI_ hs3;obtain⟨y0,y1,y2,y3,y4,y5,yf⟩:=qaa HZ3.out;clear hc3 hs3 hb3 hb13;go_wp2_with fail
 refine bodyPost_ret (v:=.agg #[.int .i64 y.sec,.int .i64 y.bad,.slice A1 y.feeds.length c1,.slice A2 y.links.length c2,.slice A3 y.asked.length c3,.slice A4 y.net.length c4]) (by simp[results,Tryz.results16,go_sem,y0,y1,y2,y3,y4,y5]) rfl ?_;rw[HR.out];exact⟨_,_,_,_,rfl,HS3.out.set6 HZ3.out _ _ _ _ _ _,qae HB3.out a_ _ _ _ _ _ _⟩
section
variable {B:Nat} {w w':World} {x:Wd} {vF vL vA vN:Value}
theorem WdQ.st(h:WdQ B w x vF vL vA vN):WdS w x vF vL vA vN:=WdS.of h.feeds.stb (h.links.stb e_) h.asked.stb h.net.stb
end
theorem qla.set{y y':Wd}{w0 w:World}{vF vL vA vN uF uL uA uN:Value}(h:qla y w0 w vF vL vA vN)(hs:WdS w y' uF uL uA uN):
 qla y' w0 ((((((w.setCell ⟨w0.heap.size,0,none⟩ (.int .i64 y'.sec)).setCell ⟨w0.heap.size,1,none⟩ (.int .i64 y'.bad)).setCell ⟨w0.heap.size,2,none⟩ uF).setCell ⟨w0.heap.size,3,none⟩ uL).setCell ⟨w0.heap.size,4,none⟩ uA).setCell ⟨w0.heap.size,5,none⟩ uN) uF uL uA uN:=
 ⟨qcU h.box _ _ _ _ _ _,(qcN a_ _ _ _ _ _ _).trans h.z,hs.set6 h.box _ _ _ _ _ _,qae h.b (nr_ _) _ _ _ _ _ _⟩
theorem OwP.set6{B q:Nat}{w:World}{y:Wd}{vF vL vA vN:Value}{cur:Array Value}(h:OwP B w y vF vL vA vN)(hq:w.heap[q]? =some (.cells cur 28 (0,0)))(x0 x1 x2 x3 x4 x5:Value):
 OwP B ((((((w.setCell ⟨q,0,none⟩ x0).setCell ⟨q,1,none⟩ x1).setCell ⟨q,2,none⟩ x2).setCell ⟨q,3,none⟩ x3).setCell ⟨q,4,none⟩ x4).setCell ⟨q,5,none⟩ x5) y vF vL vA vN:=by
 obtain⟨C,h1,h2⟩:=h;exact⟨C,Nat.le_trans h1 (qae (bR_ 0 w) (Nat.zero_le q) x0 x1 x2 x3 x4 x5).size,h2.keep (qaA.set6 (T:=LT2) hq e_ _ _ _ _ _ _)⟩
end Go.Proofs.YtekaaekpdebloaaGreatDoor
namespace Go.Proofs.YtekaaekpdebloaaGreatDoor
open Go.RowKit Go.ChangeShapes Go.WideShapes Go.Deep

section
variable {H:Type} {enc:TypeId×Value→H} {P:Program} {w:World} {base:Nat} {held:Bool}

theorem qrw{t e:TypeId}{fuel:Nat}{v:Value}{x:DataW H×List MemPlace}(ht:P.underlying t=some (.slice e))(he:P.underlying e=some .string)(hc:P.cellsOf e=1)
 (h:DataW.trod enc P w base (fun _=>true) held fuel t [v]=some x):∃ l:List ByteArray,RS w v l∧∀ s ∈ l,s.size≤maxLen:=
 qnO ht hc (fun n V y hy=>by obtain⟨s,h1,_,h3⟩:=DataW.trod_string he hy;exact⟨s,bd_,h3⟩) h
theorem qru{t e:TypeId}{fuel:Nat}{v:Value}{x:DataW H×List MemPlace}(ht:P.underlying t=some (.slice e))(he:P.underlying e=some .bool)(hc:P.cellsOf e=1)
 (h:DataW.trod enc P w base (fun _=>true) held fuel t [v]=some x):∃ l:List Bool,RB w v l:=by
 obtain⟨l,h1,_⟩:=qnO (Enc:=Value.bool) (Q:=fun _=>True) ht hc (fun n V y hy=>by obtain⟨b,h1,_⟩:=DataW.trod_bool he hy;exact⟨b,bd_,trivial⟩) h;exact⟨l,h1⟩
theorem qrv{t e:TypeId}{fuel:Nat}{v:Value}{x:DataW H×List MemPlace}(ht:P.underlying t=some (.slice e))(he:P.underlying e=some (.int .i64))(hc:P.cellsOf e=1)
 (h:DataW.trod enc P w base (fun _=>true) held fuel t [v]=some x):∃ l:List Int,RI w v l∧∀ n ∈ l,(Lit.int .i64 n).wf=true:=
 qnO ht hc (fun n V y hy=>by obtain⟨s,h1,_,h3⟩:=DataW.trod_int he hy;exact⟨s,bd_,h3⟩) h
theorem qqD{r:Reach}{b0:Nat}{spare:Nat→Bool}{t:TypeId}{fs:Array Field}{v:Value}{d:DataW H}{p:List MemPlace}(hs:P.underlying t=some (.struct fs))(hv:Value.okWide P w r b0 t v)(h:DataW.Trod enc P w base spare held t v d p):
 ∃ (cs:List Value) (n:Nat),v=.agg cs.toArray∧cs.length=P.cellsOf t∧∀ (i:Nat) (f:Field),fs[i]? =some f→∃ y,DataW.trod enc P w base spare held n f.type ((cs.drop f.offset).take (P.cellsOf f.type))=some y:=by
 obtain⟨cs,rfl,hsz⟩:=okWide_struct hs hv;obtain⟨fuel,hf⟩:=h;obtain⟨xs,n,_,_,hcl,hlen,hg⟩:=DataW.trod_struct hs hf;refine⟨cs.toList,n,k_,by simpa using hsz,fun i f hi=> ?_⟩;have hlt:i<fs.size:=(Array.getElem?_eq_some_iff.1 hi).1;have h1:=hg i f hi;rw[List.getElem?_eq_getElem a_] at h1;exact⟨_,h1⟩
theorem qpx{spare:Nat→Bool}{t:TypeId}{fs:Array Field}{cs:List Value}{fuel:Nat}{x:DataW H×List MemPlace}(hs:P.underlying t=some (.struct fs))(h:DataW.trod enc P w base spare held fuel t cs=some x):
 ∃ n:Nat,∀ (i:Nat) (f:Field),fs[i]? =some f→∃ y,DataW.trod enc P w base spare held n f.type ((cs.drop f.offset).take (P.cellsOf f.type))=some y:=by
 obtain⟨xs,n,_,_,hcl,hlen,hg⟩:=DataW.trod_struct hs h;refine⟨n,fun i f hi=> ?_⟩;have hlt:i<fs.size:=(Array.getElem?_eq_some_iff.1 hi).1;have h1:=hg i f hi;rw[List.getElem?_eq_getElem a_] at h1;exact⟨_,h1⟩
end
end Go.Proofs.YtekaaekpdebloaaGreatDoor
namespace Go.Proofs.YtekaaekpdebloaaGreatDoor
open Go Go.RowKit

theorem qwE{P:Program}{ops:Array Oper}{Q:Exit→Act→World→Prop}{id:Nat}{a:Act}{w D:World}{S:World→Prop}(b:Nat→Bool)(hD:w.drew=D)(hS:∀ W,bB D W→S W)
 (h:S D→qsQ .any ops (Array.replicate ops.size false)→qrP P .any ops Q S b ops.size (Array.replicate ops.size false) a D) (hm:P.follows .mixedOrders=true:=by kernel_rfl):(Code.region id ops true).wp P Q a w:=by
 subst hD;exact qrO S b hm (hS _ (bR_ _ _)) h
end Go.Proofs.YtekaaekpdebloaaGreatDoor
namespace Go.Proofs.YtekaaekpdebloaaGreatDoor
open Go.RowKit

def qpu{α:Type}(f:α→Nat)(l:List α):Nat:=(l.map f).sum
theorem qpz{α:Type}(f:α→Nat){l:List α}{k:Nat}(h:k<l.length):qpu f (l.take (k+1))=qpu f (l.take k)+f l[k]:=by
 unfold qpu;rw[List.take_succ_eq_append_getElem h,List.map_append,List.sum_append];simp
theorem qpy{α:Type}(f:α→Nat)(l:List α):qpu f (l.take l.length)=qpu f l:=by rw[List.take_length]
theorem qqd{α:Type}(f:α→Nat)(l:List α){j:Nat}(hj:j<l.length):f l[j]≤qpu f l:=by
 have h:=qpz f hj;have h2:qpu f (l.take (j+1))≤qpu f l:=by
  unfold qpu
  conv=>rhs;rw[←List.take_append_drop (j+1) l]
  rw[List.map_append,List.sum_append];omega
 omega
def psz(p:Pc):Nat:=p.prf.length
def fsz(f:Fd):Nat:=f.bl.length+f.hv.length
def qrr(f:Fd)(k:Int)(w:World)(e:Ending)(w':World):Prop:=∃ r:Int,e=.returned (.int .i64 r)∧r≤1048576∧(0≤r→r+fsz f≤k)∧bB w w'
theorem qqE(l:List ByteArray)(v:Value)(k:Int)(w:World)(hv:RS w v l)(hs:∀ s ∈ l,s.size≤maxLen)(h0:0≤k)(h1:k≤1048576):
 Calls Tryz.prog 221 #[v,.int .i64 k] w fun e w'=>(∃ r:Int,e=.returned (.int .i64 r)∧r≤1048576∧(0≤r→r+l.length≤k))∧w=w':=by
 have HS:=hI_ hs;clear hs;have hm:=hv.len;obtain⟨A,c,rfl,q1,q2,q3⟩:=hv;unfold maxLen at hm;clear q1 q2;by_cases hl:k-(l.length:Int)<0
 · go_enter Tryz.func221,Tryz.ntmps221
   go_wp2
   go_ret;exact⟨⟨-1,rfl,a_,a_⟩,rfl⟩
 · have hl':¬ (k<(l.length:Int)):=a_;go_enter Tryz.func221,Tryz.ntmps221
   go_wp2
   go_loop [1,5] (fun t i=>∃ (j:Nat) (r:Int),j≤l.length∧i=.int .i64 j∧t=.int .i64 r∧0≤r∧r≤1048576∧r+(l.length:Int)≤k) (fun _ i=>l.length-(intOf i).toNat)
   case atStart=>exact⟨0,_,Nat.zero_le _,rfl,rfl,a_,a_,a_⟩
   case round=>
    obtain⟨j,r,hj,rfl,rfl,hr0,hr1,hr9⟩:=hrel;by_cases hlt:j<l.length
    · obtain⟨b,o,rfl,hb,hc⟩:=q3 a_;have hcell:=hc j hlt;have hsz:=HS.out _ (List.getElem_mem hlt);unfold maxLen at hsz;clear hc q3;generalize l[j]=s at*
      by_cases hx:r<(s.size:Int)
      · go_wp2
        go_ret;exact⟨⟨-1,rfl,a_,a_⟩,rfl⟩
      · go_wp2
        go_round
        case rel=>exact⟨j+1,_,a_,t_,rfl,a_,a_,a_⟩
        case measure=>simp[intOf];omega
    · go_wp2
      go_ret;exact⟨⟨r,rfl,hr1,fun _=>a_⟩,rfl⟩
theorem qra(l:List Bool)(v:Value)(k:Int)(w:World)(hv:RB w v l)(h0:0≤k)(h1:k≤1048576):
 Calls Tryz.prog 222 #[v,.int .i64 k] w fun e w'=>(∃ r:Int,e=.returned (.int .i64 r)∧r≤1048576∧(0≤r→r+l.length≤k))∧w=w':=by
 have hm:=hv.len;obtain⟨A,c,rfl,q1,q2,q3⟩:=hv;unfold maxLen at hm;clear q1 q2 q3;by_cases hl:k<(l.length:Int)
 · go_enter Tryz.func222,Tryz.ntmps222
   go_wp2
   go_ret;exact⟨⟨-1,rfl,a_,a_⟩,rfl⟩
 · go_enter Tryz.func222,Tryz.ntmps222
   go_wp2
   go_ret;exact⟨⟨k-l.length,rfl,a_,a_⟩,rfl⟩
theorem qro(f:Fd)(vb vh:Value)(k:Int)(w:World)(hf:qaU w f vb vh)(hs:∀ s ∈ f.bl,s.size≤maxLen)(h0:0≤k)(h1:k≤1048576):
 Calls Tryz.prog 157 #[.agg #[.int .i64 f.pub,.int .i64 f.hd.len,.int .i64 f.hd.dg,.int .i64 f.hd.sg,vb,vh],.int .i64 k] w (qrr f k w):=by
 have HS:=hI_ hs;clear hs;have hfa:=hf.alloc (.cells #[.int .i64 f.pub,.int .i64 f.hd.len,.int .i64 f.hd.dg,.int .i64 f.hd.sg,vb,vh] 183);have hbA:bB w (w.alloc (.cells #[.int .i64 f.pub,.int .i64 f.hd.len,.int .i64 f.hd.dg,.int .i64 f.hd.sg,vb,vh] 183)):=(bR_ _ _).alloc (nr_ _) _;have HB:=hI_ hbA;clear hbA;go_enter Tryz.func157,Tryz.ntmps157
 go_wp2_with fail
 refine(qqE f.bl _ _ _ hfa.bl HS.out h0 h1).mono ?_;rintro e w' ⟨⟨r,rfl,hr1,hr2⟩,rfl⟩;by_cases hr:r<0
 · go_wp2
   go_ret;exact⟨-1,rfl,a_,a_,HB.out⟩
 · have HR2:=hI_ (hr2 a_);clear hr2;have hr0:0≤r:=a_;go_wp2_with fail
   refine(qra f.hv _ _ _ hfa.hv hr0 hr1).mono ?_;rintro e w' ⟨⟨r',rfl,hs1,hs2⟩,rfl⟩;by_cases hr':r'<0
   · go_wp2
     go_ret;exact⟨-1,rfl,a_,a_,HB.out⟩
   · have HS2:=hI_ (hs2 a_);clear hs2;go_wp2
     go_ret;exact⟨r',rfl,hs1,fun _=>by unfold fsz;have:=HR2.out;have:=HS2.out;omega,HB.out⟩
theorem qrp(l:List Int)(v:Value)(k:Int)(w:World)(hv:RI w v l)(h0:0≤k)(h1:k≤1048576):
 Calls Tryz.prog 223 #[v,.int .i64 k] w fun e w'=>(∃ r:Int,e=.returned (.int .i64 r)∧r≤1048576∧(0≤r→r+l.length≤k))∧w=w':=by
 have hm:=hv.len;obtain⟨A,c,rfl⟩:=hv.sl';unfold maxLen at hm;clear hv;by_cases hlt:k<(l.length:Int)
 · go_enter Tryz.func223,Tryz.ntmps223
   go_wp2
   go_ret;exact⟨⟨-1,rfl,a_,a_⟩,rfl⟩
 · go_enter Tryz.func223,Tryz.ntmps223
   go_wp2
   go_ret;exact⟨⟨k-l.length,rfl,a_,a_⟩,rfl⟩
theorem qrc(l:List (Int×Int))(v:Value)(k:Int)(w:World)(hv:RP w v l)(h0:0≤k)(h1:k≤1048576):
 Calls Tryz.prog 76 #[v,.int .i64 k] w fun e w'=>(∃ r:Int,e=.returned (.int .i64 r)∧r≤1048576∧(0≤r→r+l.length≤k))∧w=w':=by
 have hm:=hv.len;obtain⟨A,c,rfl⟩:=hv.sl;unfold maxLen at hm;clear hv;by_cases hlt:k<(l.length:Int)
 · go_enter Tryz.func76,Tryz.ntmps76
   go_wp2
   go_ret;exact⟨⟨-1,rfl,a_,a_⟩,rfl⟩
 · go_enter Tryz.func76,Tryz.ntmps76
   go_wp2
   go_ret;exact⟨⟨k-l.length,rfl,a_,a_⟩,rfl⟩
theorem qrn(l:List (Int×Int))(v:Value)(k:Int)(w:World)(hv:RP w v l)(h0:0≤k)(h1:k≤1048576):
 Calls Tryz.prog 158 #[v,.int .i64 k] w fun e w'=>(∃ r:Int,e=.returned (.int .i64 r)∧r≤1048576∧(0≤r→r+l.length≤k))∧w=w':=by
 have hm:=hv.len;obtain⟨A,c,rfl⟩:=hv.sl;unfold maxLen at hm;clear hv;by_cases hlt:k<(l.length:Int)
 · go_enter Tryz.func158,Tryz.ntmps158
   go_wp2
   go_ret;exact⟨⟨-1,rfl,a_,a_⟩,rfl⟩
 · go_enter Tryz.func158,Tryz.ntmps158
   go_wp2
   go_ret;exact⟨⟨k-l.length,rfl,a_,a_⟩,rfl⟩
def qqv(l:List Fd)(k0:Int)(w:World)(e:Ending)(w':World):Prop:=∃ r:Int,e=.returned (.int .i64 r)∧r≤1048576∧(0≤r→r+l.length+qpu fsz l≤k0)∧bB w w'
theorem qrb(l:List Fd)(v:Value)(k0:Int)(w:World)(hv:qa6 w v l)(hs:∀ j (hj:j<l.length),∀ s ∈ l[j].bl,s.size≤maxLen)(h0:0≤k0)(h1:k0≤1048576):
 Calls Tryz.prog 75 #[v,.int .i64 k0] w (qqv l k0 w):=by
 have HV:=hI_ hv;have HS:=hI_ hs;clear hs;have hm:=hv.len;obtain⟨A,c,rfl⟩:=hv.sl;unfold maxLen at hm;clear hv;by_cases hng:k0<(l.length:Int)
 · go_enter Tryz.func75,Tryz.ntmps75
   go_wp2
   go_ret;exact⟨-1,rfl,a_,a_,bR_ _ _⟩
 have hlm:l.length≤1048576:=a_;go_enter Tryz.func75,Tryz.ntmps75
 go_wp2
 go_loopw [1,5] (fun t i wr=>∃ (r:Int) (k:Nat),t=.int .i64 r∧0≤r∧r≤1048576∧k≤l.length∧i=.int .i64 k∧r+l.length+qpu fsz (l.take k)≤k0∧bB w wr) (fun _ i _=>l.length-(intOf i).toNat)
 case atStart=>exact⟨_,0,rfl,a_,a_,Nat.zero_le _,rfl,by simp[qpu];try omega,bR_ _ _⟩
 case round=>
  obtain⟨r,k,rfl,hr0,hr1,hk,rfl,hall,hbw⟩:=hrel;have HA:=hI_ hall;clear hall;by_cases hlt:k<l.length
  · obtain⟨b,o,x,y,rfl,hbs,e0,e1,e2,e3,e4,e5,e6⟩:=(HV.out.below hbw).at_ hlt;have HE:=hI_ e6;have HSK:=hI_ (HS.out k hlt);clear e6;have hkl:(k:Int)<(l.length:Int):=a_;go_wp2_with fail
    refine(qro l[k] _ _ r wr HE.out HSK.out hr0 hr1).mono ?_;rintro e w1 ⟨r2,rfl,hr2,hr3,hb1⟩;clear e0 e1 e2 e3 e4 e5;by_cases hr:r2<0
    · go_wp2
      go_ret;exact⟨-1,rfl,a_,a_,hbw.trans (hb1.mono hbw.size)⟩
    have HQ:=hI_ (hr3 a_);have HSN:=hI_ (qpz fsz hlt);clear hr3;go_wp2
    go_roundw
    case rel=>exact⟨r2,k+1,rfl,a_,hr2,a_,t_,by rw[HSN.out];have:=HA.out;have:=HQ.out;omega,hbw.trans (hb1.mono hbw.size)⟩
    case measure=>simp[intOf];omega
  · obtain rfl:k=l.length:=a_;go_wp2
    go_ret;exact⟨r,rfl,hr1,fun _=>by have:=HA.out;rw[List.take_length] at this;omega,hbw⟩
def qqu(l:List (List (Int×Int)))(k0:Int)(w:World)(e:Ending)(w':World):Prop:=∃ r:Int,e=.returned (.int .i64 r)∧r≤1048576∧(0≤r→r+l.length+qpu List.length l≤k0)∧bB w w'
theorem qq9(l:List (List (Int×Int)))(v:Value)(k0:Int)(w:World)(hv:qdh w v l)(h0:0≤k0)(h1:k0≤1048576):
 Calls Tryz.prog 77 #[v,.int .i64 k0] w (qqu l k0 w):=by
 have HV:=hI_ hv;have hm:=hv.len;obtain⟨A,c,rfl⟩:=hv.sl;unfold maxLen at hm;clear hv;by_cases hng:k0<(l.length:Int)
 · go_enter Tryz.func77,Tryz.ntmps77
   go_wp2
   go_ret;exact⟨-1,rfl,a_,a_,bR_ _ _⟩
 have hlm:l.length≤1048576:=a_;go_enter Tryz.func77,Tryz.ntmps77
 go_wp2
 go_loopw [1,5] (fun t i wr=>∃ (r:Int) (k:Nat),t=.int .i64 r∧0≤r∧r≤1048576∧k≤l.length∧i=.int .i64 k∧r+l.length+qpu List.length (l.take k)≤k0∧bB w wr) (fun _ i _=>l.length-(intOf i).toNat)
 case atStart=>exact⟨_,0,rfl,a_,a_,Nat.zero_le _,rfl,by simp[qpu];try omega,bR_ _ _⟩
 case round=>
  obtain⟨r,k,rfl,hr0,hr1,hk,rfl,hall,hbw⟩:=hrel;have HA:=hI_ hall;clear hall;by_cases hlt:k<l.length
  · obtain⟨b,o,x,rfl,hbs,e0,e6⟩:=(HV.out.below hbw).at_ hlt;have HE:=hI_ e6;clear e6;have hkl:(k:Int)<(l.length:Int):=a_;go_wp2_with fail
    refine(qrn l[k] _ r wr HE.out hr0 hr1).mono ?_;rintro e w1 ⟨⟨r2,rfl,hr2,hr3⟩,rfl⟩;clear e0;by_cases hr:r2<0
    · go_wp2
      go_ret;exact⟨-1,rfl,a_,a_,hbw⟩
    have HQ:=hI_ (hr3 a_);have HSN:=hI_ (qpz List.length hlt);clear hr3;go_wp2
    go_roundw
    case rel=>exact⟨r2,k+1,rfl,a_,hr2,a_,t_,by rw[HSN.out];have:=HA.out;have:=HQ.out;omega,hbw⟩
    case measure=>simp[intOf];omega
  · obtain rfl:k=l.length:=a_;go_wp2
    go_ret;exact⟨r,rfl,hr1,fun _=>by have:=HA.out;rw[List.take_length] at this;omega,hbw⟩
theorem qrd(p:Pc)(v:Value)(k:Int)(w:World)(hp:RI w v p.prf)(hs:p.txt.size≤maxLen)(h0:0≤k)(h1:k≤1048576):
 Calls Tryz.prog 159 #[.agg #[.int .i64 p.fr,.int .i64 p.to_,.int .i64 p.len,.int .i64 p.idx,.string p.txt,v],.int .i64 k] w fun e w'=>(∃ r:Int,e=.returned (.int .i64 r)∧r≤1048576∧(0≤r→r+p.prf.length≤k))∧bB w w':=by
 have HP:=hI_ (hp.alloc (.cells #[.int .i64 p.fr,.int .i64 p.to_,.int .i64 p.len,.int .i64 p.idx,.string p.txt,v] 187));have HB:Hid (bB w (w.alloc (.cells #[.int .i64 p.fr,.int .i64 p.to_,.int .i64 p.len,.int .i64 p.idx,.string p.txt,v] 187))):=hI_ ((bR_ _ _).alloc (nr_ _) _);unfold maxLen at hs;clear hp;by_cases hlt:k<(p.txt.size:Int)
 · go_enter Tryz.func159,Tryz.ntmps159
   go_wp2
   go_ret;exact⟨⟨-1,rfl,a_,a_⟩,HB.out⟩
 have hr0:0≤k-p.txt.size:=a_;have hr1:k-p.txt.size≤1048576:=a_;go_enter Tryz.func159,Tryz.ntmps159
 go_wp2_with fail
 refine(qrp p.prf _ _ _ HP.out hr0 hr1).mono ?_;rintro e w' ⟨⟨r,rfl,hr2,hr3⟩,rfl⟩;by_cases hr:r<0
 · go_wp2
   go_ret;exact⟨⟨-1,rfl,a_,a_⟩,HB.out⟩
 · have HS2:=hI_ (hr3 a_);clear hr3;go_wp2
   go_ret;exact⟨⟨r,rfl,hr2,fun _=>by have:=HS2.out;omega⟩,HB.out⟩
def qqe(l:List Pc)(k0:Int)(w:World)(e:Ending)(w':World):Prop:=∃ r:Int,e=.returned (.int .i64 r)∧r≤1048576∧(0≤r→r+l.length+qpu psz l≤k0)∧bB w w'
theorem qqW(l:List Pc)(v:Value)(k0:Int)(w:World)(hv:qbx w v l)(hs:∀ j (hj:j<l.length),l[j].txt.size≤maxLen)(h0:0≤k0)(h1:k0≤1048576):
 Calls Tryz.prog 78 #[v,.int .i64 k0] w (qqe l k0 w):=by
 have HV:=hI_ hv;have HS:=hI_ hs;clear hs;have hm:=hv.len;obtain⟨A,c,rfl⟩:=hv.sl;unfold maxLen at hm;clear hv;by_cases hng:k0<(l.length:Int)
 · go_enter Tryz.func78,Tryz.ntmps78
   go_wp2
   go_ret;exact⟨-1,rfl,a_,a_,bR_ _ _⟩
 have hlm:l.length≤1048576:=a_;go_enter Tryz.func78,Tryz.ntmps78
 go_wp2
 go_loopw [1,5] (fun t i wr=>∃ (r:Int) (k:Nat),t=.int .i64 r∧0≤r∧r≤1048576∧k≤l.length∧i=.int .i64 k∧r+l.length+qpu psz (l.take k)≤k0∧bB w wr) (fun _ i _=>l.length-(intOf i).toNat)
 case atStart=>exact⟨_,0,rfl,a_,a_,Nat.zero_le _,rfl,by simp[qpu];try omega,bR_ _ _⟩
 case round=>
  obtain⟨r,k,rfl,hr0,hr1,hk,rfl,hall,hbw⟩:=hrel;have HA:=hI_ hall;clear hall;by_cases hlt:k<l.length
  · obtain⟨b,o,x,rfl,hbs,e0,e1,e2,e3,e4,e5,e6⟩:=(HV.out.below hbw).at_ hlt;have HE:=hI_ e6;have HSK:=hI_ (HS.out k hlt);clear e6;have hkl:(k:Int)<(l.length:Int):=a_;go_wp2_with fail
    refine(qrd l[k] _ r wr HE.out HSK.out hr0 hr1).mono ?_;rintro e w1 ⟨⟨r2,rfl,hr2,hr3⟩,hb1⟩;clear e0 e1 e2 e3 e4 e5;by_cases hr:r2<0
    · go_wp2
      go_ret;exact⟨-1,rfl,a_,a_,hbw.trans (hb1.mono hbw.size)⟩
    have HQ:=hI_ (hr3 a_);have HSN:=hI_ (qpz psz hlt);clear hr3;go_wp2
    go_roundw
    case rel=>exact⟨r2,k+1,rfl,a_,hr2,a_,t_,by rw[HSN.out];have:=HA.out;have:=HQ.out;unfold psz at *;omega,hbw.trans (hb1.mono hbw.size)⟩
    case measure=>simp[intOf];omega
  · obtain rfl:k=l.length:=a_;go_wp2
    go_ret;exact⟨r,rfl,hr1,fun _=>by have:=HA.out;rw[List.take_length] at this;omega,hbw⟩
end Go.Proofs.YtekaaekpdebloaaGreatDoor

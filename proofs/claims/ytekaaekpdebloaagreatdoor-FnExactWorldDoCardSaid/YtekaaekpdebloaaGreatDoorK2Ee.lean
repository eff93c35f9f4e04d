/- Words and walks of the law. -/
import Derived.Test.YtekaaekpdebloaaGreatDoorK1Ee
set_option linter.unusedVariables false
set_option linter.unusedSimpArgs false
set_option maxHeartbeats 12800000
set_option maxRecDepth 100000
namespace Go.Proofs.YtekaaekpdebloaaGreatDoor
open Go.RowKit

theorem qpG{B1 B2 s1 s2 n1 n2:Nat}{t1 t2:TypeId}{w:World}{v1 v2:Value}{l1 l2:List Value}(h1:w.ownsRow B1 t1 s1 v1 n1 l1)(h2:w.ownsRow B2 t2 s2 v2 n2 l2)(ht:t1≠t2):v1.ownBlock=none∨v1.ownBlock≠v2.ownBlock:=by
 rcases h1.2 with⟨rfl,_⟩|⟨k,cap,cur,rfl,hk,hh,r⟩
 · exact .inl rfl
 · refine .inr fun he=> ?_;rcases h2.2 with⟨rfl,_⟩|⟨k2,cap2,cur2,rfl,hk2,hh2,r2⟩
   · cases he
   · cases he
     rw[hh] at hh2;cases hh2
     exact ht rfl
theorem qqK{n:Nat}{G:Nat→Value}(h:Dis n G){i j:Nat}(hi:i<n)(hj:j<n)(hne:i≠j):(G i).ownBlock=none∨(G i).ownBlock≠(G j).ownBlock:=by
 cases hG:(G i).ownBlock with
 |none=>exact .inl rfl
 |some k=>
  refine .inr fun he=> ?_;rcases Nat.lt_or_gt_of_ne hne with hl|hl
  · exact h i j hl hj k hG he.symm
  · exact h j i hl hi k he.symm hG
theorem Dis.congr{n:Nat}{G G':Nat→Value}(h:Dis n G)(he:∀ j,j<n→G' j=G j):Dis n G':=fun i j hij hj k hk=>by
 rw[he j hj];rw[he i a_] at hk;exact h i j hij hj k hk
def fw(f:Fd):Nat:=4+f.bl.length+f.hv.length
def qpN(k:Nat)(fs:List Fd)(j:Nat):Nat:=k+qpu fw (fs.take j)
theorem qpO{k:Nat}{fs:List Fd}{j:Nat}(h:j<fs.length):qpN k fs (j+1)=qpN k fs j+fw fs[j]:=by unfold qpN;rw[qpz fw h];omega
theorem qqr{k:Nat}{fs:List Fd}:qpN k fs 0=k:=by simp[qpN,qpu]
theorem qqc{k:Nat}{fs:List Fd}:∀ d j,j+d=fs.length→qpN k fs j≤qpN k fs fs.length
 |0,j,h=>by rw[show j=fs.length by omega];exact nr_ _
 |d+1,j,h=>Nat.le_trans (by rw[qpO a_];omega) (qqc d (j+1) a_)
def mFd(k:Nat)(f:Fd):Fd:=⟨((k:Nat):Int),⟨((k+1:Nat):Int),((k+2:Nat):Int),((k+3:Nat):Int)⟩,(List.range f.bl.length).map fun j=>mtx (k+4+j),(List.range f.hv.length).map fun j=>((k+4+f.bl.length+j)%3==0)⟩
def mFs(k:Nat)(fs:List Fd)(m:Nat):List Fd:=(List.range fs.length).map fun j=>if j<m then mFd (qpN k fs j) (fs.getD j Fd.none) else fs.getD j Fd.none
theorem qpB{k:Nat}{fs:List Fd}{m:Nat}:(mFs k fs m).length=fs.length:=by simp[mFs]
theorem qpP{k:Nat}{fs:List Fd}{m j:Nat}(hj:j<(mFs k fs m).length):(mFs k fs m)[j]=if j<m then mFd (qpN k fs j) (fs.getD j Fd.none) else fs.getD j Fd.none:=by simp[mFs]
theorem qrk{k:Nat}{fs:List Fd}:mFs k fs 0=fs:=by
 apply List.ext_getElem qpB;intro j h1 h2;rw[qpP,if_neg a_,qam h2]
theorem qrt{k:Nat}{fs:List Fd}{m:Nat}(hm:m<fs.length):(mFs k fs m).set m (mFd (qpN k fs m) fs[m])=mFs k fs (m+1):=by
 apply List.ext_getElem (by rw[List.length_set,qpB,qpB]);intro j h1 h2;rw[List.getElem_set];split
 · rename_i h;subst h;rw[qpP,if_pos a_,qam hm]
 · rename_i h
   rw[qpP,qpP];by_cases hj:j<m
   · rw[if_pos hj,if_pos a_]
   · rw[if_neg hj,if_neg a_]
theorem ON.put4{B g n cap:Nat}{e:TypeId}{w:World}{F:Nat→Value}(h:ON 6 B e w (.slice (some ⟨g,0,none⟩) n cap) n F){k:Nat}(hk:k<n)(x0 x1 x2 x3:Value):
 ON 6 B e ((((w.setCell ⟨g,k*6,none⟩ x0).setCell ⟨g,k*6+1,none⟩ x1).setCell ⟨g,k*6+1+1,none⟩ x2).setCell ⟨g,k*6+1+2,none⟩ x3) (.slice (some ⟨g,0,none⟩) n cap) n
  (fun s=>if s=k*6+1+2 then x3 else if s=k*6+1+1 then x2 else if s=k*6+1 then x1 else if s=k*6 then x0 else F s)∧
  w.grownBy ((((w.setCell ⟨g,k*6,none⟩ x0).setCell ⟨g,k*6+1,none⟩ x1).setCell ⟨g,k*6+1+1,none⟩ x2).setCell ⟨g,k*6+1+2,none⟩ x3) (some g):=by
 have a0:=h.setAt (t:=k*6) a_ x0;have a1:=a0.1.setAt (t:=k*6+1) a_ x1;have a2:=a1.1.setAt (t:=k*6+1+1) a_ x2;have a3:=a2.1.setAt (t:=k*6+1+2) a_ x3;exact⟨a3.1,qat (qat (qat a0.2 a1.2) a2.2) a3.2⟩
theorem qa7.upd{B C:Nat}{w w':World}{v:Value}{fs:List Fd}{j:Nat}{f':Fd}{F F':Nat→Value}(hU:Up C v)
 (hF:∀ i (hi:i<fs.length),F (i*6)=.int .i64 fs[i].pub∧F (i*6+1)=.int .i64 fs[i].hd.len∧F (i*6+2)=.int .i64 fs[i].hd.dg∧F (i*6+3)=.int .i64 fs[i].hd.sg∧qaK B w fs[i] (F (i*6+4)) (F (i*6+5))∧Up C (F (i*6+4))∧Up C (F (i*6+5)))
 (hD:Dis fs.length (fun j=>F (j*6+4))∧Dis fs.length (fun j=>F (j*6+5)))
 (hN:ON 6 B 50 w' v fs.length F') (hlow:∀ i,i<fs.length→i≠j→F' (i*6)=F (i*6)∧F' (i*6+1)=F (i*6+1)∧F' (i*6+2)=F (i*6+2)∧F' (i*6+3)=F (i*6+3)) (hhigh:∀ i,i<fs.length→F' (i*6+4)=F (i*6+4)∧F' (i*6+5)=F (i*6+5))
 (hnew:F' (j*6)=.int .i64 f'.pub∧F' (j*6+1)=.int .i64 f'.hd.len∧F' (j*6+2)=.int .i64 f'.hd.dg∧F' (j*6+3)=.int .i64 f'.hd.sg) (hfo:qaK B w' f' (F (j*6+4)) (F (j*6+5)))
 (hoth:∀ i (hi:i<fs.length),i≠j→qaK B w' fs[i] (F (i*6+4)) (F (i*6+5))):qa7 B C w' v (fs.set j f'):=by
 refine⟨hU,F',by rw[List.length_set];exact hN,fun i hi=> ?_,?_⟩
 · rw[List.length_set] at hi;obtain⟨a0,a1,a2,a3,a4,a5,a6⟩:=hF i hi;rw[(hhigh i hi).1,(hhigh i hi).2,List.getElem_set];by_cases hij:j=i
   · rw[if_pos hij];subst hij;exact⟨hnew.1,hnew.2.1,hnew.2.2.1,hnew.2.2.2,hfo,a5,a6⟩
   · rw[if_neg hij];obtain⟨l0,l1,l2,l3⟩:=hlow i hi (fun h=>hij h.symm);rw[l0,l1,l2,l3];exact⟨a0,a1,a2,a3,hoth i hi (fun h=>hij h.symm),a5,a6⟩
 · rw[List.length_set];exact⟨hD.1.congr fun i hi=>(hhigh i hi).1,hD.2.congr fun i hi=>(hhigh i hi).2⟩

theorem qpL(fs:List Fd)(v:Value)(k B C:Nat)(w:World)(hv:qa7 B C w v fs)(hB:B≤w.heap.size)(hC:C≤w.heap.size)(hk:qpN k fs fs.length≤100000000)(hz:∀ j (hj:j<fs.length),fs[j].bl.length≤1048576∧fs[j].hv.length≤1048576):
 Calls Tryz.prog 87 #[v,.int .i64 k] w fun e w'=>e=.returned (.int .i64 ((qpN k fs fs.length:Nat):Int))∧qa7 B C w' v (mFs k fs fs.length)∧MK NF B C w w':=by
 have HV:=hI_ hv;obtain⟨A,c,rfl⟩:=hv.r.sl;have hm:=hv.r.len;have HC:=hI_ hC;have HU:=hI_ hv.1;have HZ:=hI_ hz;clear hz;unfold maxLen at hm;clear hv;go_enter Tryz.func87,Tryz.ntmps87
 go_wp2
 go_loopw [1,5] (fun t i wr=>∃ j:Nat,j≤fs.length∧i=.int .i64 j∧t=.int .i64 ((qpN k fs j:Nat):Int)∧qa7 B C wr (.slice A fs.length c) (mFs k fs j)∧MK NF B C w wr) (fun _ i _=>fs.length-(intOf i).toNat)
 case atStart=>exact⟨0,Nat.zero_le _,rfl,by rw[qqr],by rw[qrk];exact HV.out,MK.refl _ _ _ _⟩
 case round=>
  obtain⟨j,hj,rfl,rfl,ho,hg⟩:=hrel;have HG:=hI_ hg;clear hg;by_cases hlt:j<fs.length
  · obtain⟨q,HQ⟩:=nm_ (qpN k fs j);have hqb:q≤100000000:=by rw[←HQ.out];exact Nat.le_trans (qqc (fs.length-j) j a_) hk
    have hqs:qpN k fs (j+1)≤100000000:=Nat.le_trans (qqc (fs.length-(j+1)) (j+1) a_) hk;rw[qpO hlt,HQ.out] at hqs;unfold fw at hqs;obtain⟨hU,F,hN,hF,hD⟩:=ho;rw[qpB] at hN hD;obtain⟨g,cap,hA,hgB,hgs⟩:=hN.form a_;cases hA;have hgC:g<C:=hU g rfl;have hFj:=hF j (by rw[qpB];exact hlt);rw[qpP,if_neg (Nat.lt_irrefl j),qam hlt] at hFj;obtain⟨f0,HF0⟩:=nm_ (fs[j]);rw[HF0.out] at hFj hqs;obtain⟨-,-,-,-,hfo,hu4,hu5⟩:=hFj;obtain⟨xA,xc,hx⟩:=hfo.bl.sl;obtain⟨yA,yc,hy⟩:=hfo.hv.sl;obtain⟨⟨u0,e0⟩,f0'⟩:(∃ u,wr.cell? ⟨g,j*6,none⟩=some u)∧wr.frozen? ⟨g,j*6,none⟩=false:=by have:=hN.at_ (t:=j*6) a_;exact⟨⟨_,this.1⟩,this.2⟩
    obtain⟨⟨u1,e1⟩,f1'⟩:(∃ u,wr.cell? ⟨g,j*6+1,none⟩=some u)∧wr.frozen? ⟨g,j*6+1,none⟩=false:=by have:=hN.at_ (t:=j*6+1) a_;exact⟨⟨_,this.1⟩,this.2⟩
    obtain⟨⟨u2,e2⟩,f2'⟩:(∃ u,wr.cell? ⟨g,j*6+2,none⟩=some u)∧wr.frozen? ⟨g,j*6+2,none⟩=false:=by have:=hN.at_ (t:=j*6+2) a_;exact⟨⟨_,this.1⟩,this.2⟩
    obtain⟨⟨u3,e3⟩,f3'⟩:(∃ u,wr.cell? ⟨g,j*6+3,none⟩=some u)∧wr.frozen? ⟨g,j*6+3,none⟩=false:=by have:=hN.at_ (t:=j*6+3) a_;exact⟨⟨_,this.1⟩,this.2⟩
    have e4:=(hN.at_ (t:=j*6+4) a_).1;have e5:=(hN.at_ (t:=j*6+5) a_).1;rw[hx] at e4;rw[hy] at e5;obtain⟨K,HK⟩:∃ K:Int,Hid (((q:Nat):Int)=K):=⟨_,hI_ rfl⟩
    have hK0:0≤K:=by rw[←HK.out];omega
    have hK1:K≤1000000000:=by rw[←HK.out];omega
    have hp:=hN.put4 hlt (.int .i64 K) (.int .i64 (K+1)) (.int .i64 (K+1+1)) (.int .i64 (K+1+1+1));obtain⟨W4,HW4⟩:=nm_ ((((wr.setCell ⟨g,j*6,none⟩ (.int .i64 K)).setCell ⟨g,j*6+1,none⟩ (.int .i64 (K+1))).setCell ⟨g,j*6+1+1,none⟩ (.int .i64 (K+1+1))).setCell ⟨g,j*6+1+2,none⟩ (.int .i64 (K+1+1+1)));rw[HW4.out] at hp;obtain⟨hN4,hg4⟩:=hp;have k5:=(hN4.at_ (t:=j*6+5) a_).1;rw[if_neg a_,if_neg a_,if_neg a_,if_neg a_,hy] at k5;have hneB:∀ {α:Type} {enc:α→Value} {t:TypeId} {u:Value} {l:List α},O1 enc B t wr u l→t≠50→u.ownBlock=none∨u.ownBlock≠some g:=fun h ht=>qpG h hN ht;have hbl4:=hfo.bl.grown hg4 (hneB hfo.bl e_);have hhv4:=hfo.hv.grown hg4 (hneB hfo.hv e_);rw[hx] at hbl4;rw[hy] at hhv4;have hsz4:wr.heap.size≤W4.heap.size:=hg4.size;have HP:=hI_ (show _∧_∧_∧_∧_∧_∧_∧_∧_∧_ from⟨hU,hN,hF,hD,hN4,hg4,hfo,hu4,hu5,hbl4⟩);have HH4:=hI_ hhv4;have HB4:=hI_ hbl4;have HX:=hI_ hx;have HY:=hI_ hy;have hzj:=HZ.out j hlt;rw[HF0.out] at hzj;have lx:f0.bl.length≤2000000:=a_;have ly:f0.hv.length≤2000000:=a_;rw[HQ.out,HK.out];clear hU hN hF hD hN4 hg4 hfo hu4 hu5 hbl4 hhv4 hx hy hneB hgs;go_wp2_with fail
    rw[HW4.out];rw[show K+1+1+1+1=((q+4:Nat):Int) by rw[←HK.out];omega];clear e0 e1 e2 e3 e4 e5 f0' f1' f2' f3';refine(qpV f0.bl _ (q+4) B W4 HB4.out lx a_).mono ?_;rintro e w1 ⟨rfl,hm1,hr1⟩;obtain⟨K2,HK2⟩:∃ K:Int,Hid (((q+4+f0.bl.length:Nat):Int)=K):=⟨_,hI_ rfl⟩
    rw[HK2.out];have hgx:some g≠(Value.slice xA f0.bl.length xc).ownBlock:=by
     rcases qpG HB4.out HP.out.2.2.2.2.1 e_ with h|h
     · rw[h];exact fun e=>by cases e
     · exact fun e=>h e.symm
    have hgy:some g≠(Value.slice yA f0.hv.length yc).ownBlock:=by
     rcases qpG HH4.out HP.out.2.2.2.2.1 e_ with h|h
     · rw[h];exact fun e=>by cases e
     · exact fun e=>h e.symm
    have lg4:g<W4.heap.size:=(HP.out.2.2.2.2.1.lt g rfl).2;have k51:=(World.cell?_of_block (a:=⟨g,j*6+5,none⟩) (hr1.block g lg4 hgx)).trans k5;have hh1:=HH4.out.grown hr1 (O1.ne_ HH4.out HB4.out e_);have HM1:=hI_ hm1;have HR1:=hI_ hr1;have HH1:=hI_ hh1;have lg1:=nL_ lg4 hr1.size;clear k5 hm1 hr1 hh1 hgx hgy;go_wp2_with fail
    rw[←HK2.out];refine(qqa f0.hv _ (q+4+f0.bl.length) B w1 HH1.out ly a_).mono ?_;rintro e w2 ⟨rfl,hm2,hr2⟩;obtain⟨K3,HK3⟩:∃ K:Int,Hid (((q+4+f0.bl.length+f0.hv.length:Nat):Int)=K):=⟨_,hI_ rfl⟩
    rw[HK3.out];have HM2:=hI_ hm2;have HR2:=hI_ hr2;clear hm2 hr2 k51;go_wp2
    go_roundw
    case rel=>
     obtain⟨hU,hN,hF,hD,hN4,hg4,hfo,hu4,hu5,-⟩:=HP.out;have hx:=HX.out;have hy:=HY.out;have hgx:some g≠(Value.slice xA f0.bl.length xc).ownBlock:=by
      rcases qpG HB4.out hN4 e_ with h|h
      · rw[h];exact fun e=>by cases e
      · exact fun e=>h e.symm
     have hgy:some g≠(Value.slice yA f0.hv.length yc).ownBlock:=by
      rcases qpG HH4.out hN4 e_ with h|h
      · rw[h];exact fun e=>by cases e
      · exact fun e=>h e.symm
     have hN1:=hN4.grown HR1.out (.inr hgx);have hN2:=hN1.grown HR2.out (.inr hgy);refine⟨j+1,a_,t_,?_,?_,?_⟩
     · rw[qpO hlt,HQ.out,HF0.out,←HK3.out];unfold fw;congr 1;omega
     · rw[←qrt hlt,HQ.out,HF0.out];refine qa7.upd (w:=wr) (F:=F) hU hF (by rw[qpB];exact hD) (by rw[qpB];exact hN2) (fun i hi hij=> ?_) (fun i hi=> ?_) ?_ ?_ (fun i hi hij=> ?_)
       · rw[if_neg a_,if_neg a_,if_neg a_,if_neg a_];rw[if_neg a_,if_neg a_,if_neg a_,if_neg a_];rw[if_neg a_,if_neg a_,if_neg a_,if_neg a_];rw[if_neg a_,if_neg a_,if_neg a_,if_neg a_];exact⟨rfl,rfl,rfl,rfl⟩
       · rw[if_neg a_,if_neg a_,if_neg a_,if_neg a_];rw[if_neg a_,if_neg a_,if_neg a_,if_neg a_];exact⟨rfl,rfl⟩
       · rw[if_neg a_,if_neg a_,if_neg a_,if_pos rfl];rw[if_neg a_,if_neg a_,if_pos rfl];rw[if_neg a_,if_pos rfl,if_pos rfl];unfold mFd;rw[←HK.out];refine⟨rfl,?_,?_,?_⟩ <;> (first|rfl|(congr 1;omega))
       · rw[hx,hy];refine⟨?_,?_⟩
         · have:=HM1.out.grown HR2.out (O1.ne_ HM1.out HH1.out e_);simpa[mFd] using this
         · have:=HM2.out;simpa[mFd] using this
       · rw[qpB] at hi;have hfi:=(hF i (by rw[qpB];exact hi)).2.2.2.2.1;have b4:=hfi.bl.grown hg4 (qpG hfi.bl hN e_);have h4:=hfi.hv.grown hg4 (qpG hfi.hv hN e_);have d1:=qqK hD.1 hi hlt hij;have d2:=qqK hD.2 hi hlt hij;rw[hx] at d1;rw[hy] at d2;have b1:=b4.grown HR1.out d1;have h1:=h4.grown HR1.out (O1.ne_ h4 HB4.out e_);exact⟨b1.grown HR2.out (O1.ne_ b1 HH1.out e_),h1.grown HR2.out d2⟩
     · rw[hx] at hu4;rw[hy] at hu5;exact((HG.out.trans (MK.grown hg4 (fun k hk=>by cases hk;exact⟨hgB,hgC⟩) (hN.off e_))).trans (MK.grown HR1.out (fun k hk=>⟨(HB4.out.lt k hk).1,hu4 k hk⟩) (HB4.out.off e_))).trans (MK.grown HR2.out (fun k hk=>⟨(HH1.out.lt k hk).1,hu5 k hk⟩) (HH1.out.off e_))
    case measure=>simp[intOf];omega
  · obtain rfl:j=fs.length:=a_;go_wp2
    go_ret;exact⟨rfl,ho,HG.out⟩
def mP(k j:Nat):Int×Int:=(((k+2*j:Nat):Int),((k+2*j+1:Nat):Int))
theorem qpM(l:List (Int×Int))(v:Value)(k B C:Nat)(w:World)(hv:qct B C 99 w v l)(hl:l.length≤2000000)(hk:k≤1000000000):
 Calls Tryz.prog 88 #[v,.int .i64 k] w fun e w'=>e=.returned (.int .i64 ((k+2*l.length:Nat):Int))∧qct B C 99 w' v ((List.range l.length).map (mP k))∧w.grownBy w' v.ownBlock:=by
 have HV:=hI_ hv;obtain⟨A,c,rfl⟩:=hv.r.sl;clear hv;go_enter Tryz.func88,Tryz.ntmps88
 go_wp2
 go_loopw [1,5] (fun t i wr=>∃ j:Nat,j≤l.length∧i=.int .i64 j∧t=.int .i64 ((k+2*j:Nat):Int)∧qct B C 99 wr (.slice A l.length c) (mk (mP k) j l)∧w.grownBy wr (Value.slice A l.length c).ownBlock) (fun _ i _=>l.length-(intOf i).toNat)
 case atStart=>exact⟨0,Nat.zero_le _,rfl,rfl,by simpa[mk] using HV.out,qii _ _⟩
 case round=>
  obtain⟨j,hj,rfl,rfl,ho,hg⟩:=hrel;have HG:=hI_ hg;clear hg;by_cases hlt:j<l.length
  · obtain⟨hU,F,hN,hF⟩:=ho;have hml:(mk (mP k) j l).length=l.length:=qpw hj;rw[hml] at hN;obtain⟨g,cap,hA,hgB,hgs⟩:=hN.form a_;cases hA;obtain⟨K,HK⟩:∃ K:Int,Hid (((k+2*j:Nat):Int)=K):=⟨_,hI_ rfl⟩
    have hK0:0≤K:=by rw[←HK.out];omega
    have hK1:K≤2000000000:=by rw[←HK.out];omega
    obtain⟨d0,f0⟩:=hN.at_ (t:=j*2) a_;obtain⟨d1,f1⟩:=hN.at_ (t:=j*2+1) a_;have HP:=hI_ (hN.put2 hlt (.int .i64 K) (.int .i64 (K+1)));have HF:=hI_ hF;have HML:=hI_ hml;have HU:=hI_ hU;rw[HK.out];clear hN hF hml hU;go_wp2
    go_roundw
    case rel=>
     refine⟨j+1,a_,t_,by have:=HK.out;go_num,⟨HU.out,_,by rw[qpw a_];exact HP.out.1,fun i hi=> ?_⟩,qat HG.out HP.out.2⟩;have hi':i<l.length:=by rw[qpw a_] at hi;exact hi
     by_cases hij:i=j
     · subst hij;have hgi:(mk (mP k) (i+1) l)[i]'(by rw[qpw a_];exact hi')=mP k i:=by simp[mk,List.getElem_append_left]
       rw[hgi,if_neg a_,if_pos rfl,if_pos rfl];unfold mP;exact⟨by rw[←HK.out],by congr 1;rw[←HK.out];simp only[];omega⟩
     · have hfi:=HF.out i (by rw[HML.out];exact hi');have hgi:(mk (mP k) (j+1) l)[i]'(by rw[qpw a_];exact hi')=(mk (mP k) j l)[i]'(by rw[HML.out];exact hi'):=by
        have hst:=qpW (f:=mP k) hlt;have:(mk (mP k) (j+1) l)[i]'(by rw[qpw a_];exact hi')=((mk (mP k) j l).set j (mP k j))[i]'(by rw[List.length_set,HML.out];exact hi'):=by simp only[hst]
        rw[this,List.getElem_set_ne (fun h=>hij h.symm)]
       rw[hgi,if_neg a_,if_neg a_,if_neg a_,if_neg a_];exact hfi
    case measure=>simp[intOf];omega
  · obtain rfl:j=l.length:=a_;rw[qqq] at ho;have HO:=hI_ ho;clear ho;go_wp2
    go_ret;exact⟨rfl,HO.out,HG.out⟩
theorem qqo(l:List (Int×Int))(v:Value)(k B C:Nat)(w:World)(hv:qct B C 109 w v l)(hl:l.length≤2000000)(hk:k≤1000000000):
 Calls Tryz.prog 170 #[v,.int .i64 k] w fun e w'=>e=.returned (.int .i64 ((k+2*l.length:Nat):Int))∧qct B C 109 w' v ((List.range l.length).map (mP k))∧w.grownBy w' v.ownBlock:=by
 have HV:=hI_ hv;obtain⟨A,c,rfl⟩:=hv.r.sl;clear hv;go_enter Tryz.func170,Tryz.ntmps170
 go_wp2
 go_loopw [1,5] (fun t i wr=>∃ j:Nat,j≤l.length∧i=.int .i64 j∧t=.int .i64 ((k+2*j:Nat):Int)∧qct B C 109 wr (.slice A l.length c) (mk (mP k) j l)∧w.grownBy wr (Value.slice A l.length c).ownBlock) (fun _ i _=>l.length-(intOf i).toNat)
 case atStart=>exact⟨0,Nat.zero_le _,rfl,rfl,by simpa[mk] using HV.out,qii _ _⟩
 case round=>
  obtain⟨j,hj,rfl,rfl,ho,hg⟩:=hrel;have HG:=hI_ hg;clear hg;by_cases hlt:j<l.length
  · obtain⟨hU,F,hN,hF⟩:=ho;have hml:(mk (mP k) j l).length=l.length:=qpw hj;rw[hml] at hN;obtain⟨g,cap,hA,hgB,hgs⟩:=hN.form a_;cases hA;obtain⟨K,HK⟩:∃ K:Int,Hid (((k+2*j:Nat):Int)=K):=⟨_,hI_ rfl⟩
    have hK0:0≤K:=by rw[←HK.out];omega
    have hK1:K≤2000000000:=by rw[←HK.out];omega
    obtain⟨d0,f0⟩:=hN.at_ (t:=j*2) a_;obtain⟨d1,f1⟩:=hN.at_ (t:=j*2+1) a_;have HP:=hI_ (hN.put2 hlt (.int .i64 K) (.int .i64 (K+1)));have HF:=hI_ hF;have HML:=hI_ hml;have HU:=hI_ hU;rw[HK.out];clear hN hF hml hU;go_wp2
    go_roundw
    case rel=>
     refine⟨j+1,a_,t_,by have:=HK.out;go_num,⟨HU.out,_,by rw[qpw a_];exact HP.out.1,fun i hi=> ?_⟩,qat HG.out HP.out.2⟩;have hi':i<l.length:=by rw[qpw a_] at hi;exact hi
     by_cases hij:i=j
     · subst hij;have hgi:(mk (mP k) (i+1) l)[i]'(by rw[qpw a_];exact hi')=mP k i:=by simp[mk,List.getElem_append_left]
       rw[hgi,if_neg a_,if_pos rfl,if_pos rfl];unfold mP;exact⟨by rw[←HK.out],by congr 1;rw[←HK.out];simp only[];omega⟩
     · have hfi:=HF.out i (by rw[HML.out];exact hi');have hgi:(mk (mP k) (j+1) l)[i]'(by rw[qpw a_];exact hi')=(mk (mP k) j l)[i]'(by rw[HML.out];exact hi'):=by
        have hst:=qpW (f:=mP k) hlt;have:(mk (mP k) (j+1) l)[i]'(by rw[qpw a_];exact hi')=((mk (mP k) j l).set j (mP k j))[i]'(by rw[List.length_set,HML.out];exact hi'):=by simp only[hst]
        rw[this,List.getElem_set_ne (fun h=>hij h.symm)]
       rw[hgi,if_neg a_,if_neg a_,if_neg a_,if_neg a_];exact hfi
    case measure=>simp[intOf];omega
  · obtain rfl:j=l.length:=a_;rw[qqq] at ho;have HO:=hI_ ho;clear ho;go_wp2
    go_ret;exact⟨rfl,HO.out,HG.out⟩
def qpR(k:Nat)(ls:List (List (Int×Int)))(j:Nat):Nat:=k+qpu lw (ls.take j)
theorem qpX{k:Nat}{ls:List (List (Int×Int))}{j:Nat}(h:j<ls.length):qpR k ls (j+1)=qpR k ls j+lw ls[j]:=by unfold qpR;rw[qpz lw h];omega
theorem qqs{k:Nat}{ls:List (List (Int×Int))}:qpR k ls 0=k:=by simp[qpR,qpu]
theorem qqB{k:Nat}{ls:List (List (Int×Int))}:∀ d j,j+d=ls.length→qpR k ls j≤qpR k ls ls.length
 |0,j,h=>by rw[show j=ls.length by omega];exact nr_ _
 |d+1,j,h=>Nat.le_trans (by rw[qpX a_];omega) (qqB d (j+1) a_)
def mL(k:Nat)(l:List (Int×Int)):List (Int×Int):=(List.range l.length).map (mP k)
def mLs(k:Nat)(ls:List (List (Int×Int)))(m:Nat):List (List (Int×Int)):=(List.range ls.length).map fun j=>if j<m then mL (qpR k ls j) (ls.getD j []) else ls.getD j []
theorem qpD{k:Nat}{ls:List (List (Int×Int))}{m:Nat}:(mLs k ls m).length=ls.length:=by simp[mLs]
theorem qpU{k:Nat}{ls:List (List (Int×Int))}{m j:Nat}(hj:j<(mLs k ls m).length):(mLs k ls m)[j]=if j<m then mL (qpR k ls j) (ls.getD j []) else ls.getD j []:=by simp[mLs]
theorem qrl{k:Nat}{ls:List (List (Int×Int))}:mLs k ls 0=ls:=by
 apply List.ext_getElem qpD;intro j h1 h2;rw[qpU,if_neg a_,qam h2]
theorem qpK(ls:List (List (Int×Int)))(v:Value)(k B C:Nat)(w:World)(hv:qcA B C w v ls)(hk:qpR k ls ls.length≤100000000)(hz:∀ j (hj:j<ls.length),ls[j].length≤1048576):
 Calls Tryz.prog 89 #[v,.int .i64 k] w fun e w'=>e=.returned (.int .i64 ((qpR k ls ls.length:Nat):Int))∧qcA B C w' v (mLs k ls ls.length)∧MK NA B C w w':=by
 have HV:=hI_ hv;obtain⟨A,c,rfl⟩:=hv.r.sl;have hm:=hv.r.len;have HZ:=hI_ hz;unfold maxLen at hm;clear hv hz;go_enter Tryz.func89,Tryz.ntmps89
 go_wp2
 go_loopw [1,5] (fun t i wr=>∃ j:Nat,j≤ls.length∧i=.int .i64 j∧t=.int .i64 ((qpR k ls j:Nat):Int)∧qcA B C wr (.slice A ls.length c) (mLs k ls j)∧MK NA B C w wr) (fun _ i _=>ls.length-(intOf i).toNat)
 case atStart=>exact⟨0,Nat.zero_le _,rfl,by rw[qqs],by rw[qrl];exact HV.out,MK.refl _ _ _ _⟩
 case round=>
  obtain⟨j,hj,rfl,rfl,ho,hg⟩:=hrel;have HG:=hI_ hg;clear hg;by_cases hlt:j<ls.length
  · obtain⟨q,HQ⟩:=nm_ (qpR k ls j);have hqb:q≤100000000:=by rw[←HQ.out];exact Nat.le_trans (qqB (ls.length-j) j a_) hk
    obtain⟨hU,F,hN,hF,hD⟩:=ho;rw[qpD] at hN hD;obtain⟨g,cap,hA,hgB,hgs⟩:=hN.form a_;cases hA;have hFj:=hF j (by rw[qpD];exact hlt);rw[qpU,if_neg (Nat.lt_irrefl j),qam hlt] at hFj;have hzj:=HZ.out j hlt;obtain⟨l0,HL0⟩:=nm_ (ls[j]);rw[HL0.out] at hFj hzj;obtain⟨xA,xc,hx⟩:=hFj.r.sl;have e0:=(hN.at_ (t:=j) a_).1;rw[hx] at e0;have HP:=hI_ (show _∧_∧_∧_∧_ from⟨hU,hN,hF,hD,hFj⟩);rw[hx] at hFj;have HJ:=hI_ hFj;have HX:=hI_ hx;rw[HQ.out];clear hU hN hF hD hFj hx;go_wp2_with fail
    refine(qqo l0 _ q B C wr HJ.out a_ a_).mono ?_;rintro e w1 ⟨rfl,hm1,hr1⟩;obtain⟨K2,HK2⟩:∃ K:Int,Hid (((q+2*l0.length:Nat):Int)=K):=⟨_,hI_ rfl⟩
    rw[HK2.out];have HM1:=hI_ hm1;have HR1:=hI_ hr1;clear hm1 hr1 e0;go_wp2
    go_roundw
    case rel=>
     obtain⟨hU,hN,hF,hD,hFj⟩:=HP.out;have hx:=HX.out;obtain⟨-,FJ,hNJ,-⟩:=HJ.out;refine⟨j+1,a_,t_,?_,⟨hU,F,?_,fun i hi=> ?_,?_⟩,?_⟩
     · rw[qpX hlt,HQ.out,HL0.out,←HK2.out];rfl
     · rw[qpD];refine hN.grown HR1.out ?_;rcases qpG hN hNJ e_ with h|h
       · exact .inl h
       · exact .inr h
     · rw[qpD] at hi;rw[qpU];by_cases hij:i=j
       · subst hij;rw[if_pos a_,qam hlt,HQ.out,HL0.out,hx];exact HM1.out
       · have hfi:=hF i (by rw[qpD];exact hi);rw[qpU] at hfi;have hsame:(if i<j+1 then mL (qpR k ls i) (ls.getD i []) else ls.getD i [])=(if i<j then mL (qpR k ls i) (ls.getD i []) else ls.getD i []):=by
          by_cases hlt2:i<j
          · rw[if_pos hlt2,if_pos a_]
          · rw[if_neg hlt2,if_neg a_]
         rw[hsame];have d1:=qqK hD hi hlt hij;rw[hx] at d1;obtain⟨u0,FI,u1,u2⟩:=hfi;exact⟨u0,FI,u1.grown HR1.out d1,u2⟩
     · rw[qpD];exact hD
     · exact HG.out.trans (MK.grown HR1.out (fun k hk=>⟨(HJ.out.lt k hk).1,HJ.out.1 k hk⟩) (HJ.out.off e_))
    case measure=>simp[intOf];omega
  · obtain rfl:j=ls.length:=a_;go_wp2
    go_ret;exact⟨rfl,ho,HG.out⟩
def pw(p:Pc):Nat:=5+p.prf.length
def qpS(k:Nat)(ps:List Pc)(j:Nat):Nat:=k+qpu pw (ps.take j)
theorem qpY{k:Nat}{ps:List Pc}{j:Nat}(h:j<ps.length):qpS k ps (j+1)=qpS k ps j+pw ps[j]:=by unfold qpS;rw[qpz pw h];omega
theorem qqt{k:Nat}{ps:List Pc}:qpS k ps 0=k:=by simp[qpS,qpu]
theorem qqC{k:Nat}{ps:List Pc}:∀ d j,j+d=ps.length→qpS k ps j≤qpS k ps ps.length
 |0,j,h=>by rw[show j=ps.length by omega];exact nr_ _
 |d+1,j,h=>Nat.le_trans (by rw[qpY a_];omega) (qqC d (j+1) a_)
def mPc(k:Nat)(p:Pc):Pc:=⟨((k:Nat):Int),((k+1:Nat):Int),((k+2:Nat):Int),((k+3:Nat):Int),mtx (k+4),(List.range p.prf.length).map fun j=>((k+5+j:Nat):Int)⟩
def mNs(k:Nat)(ps:List Pc)(m:Nat):List Pc:=(List.range ps.length).map fun j=>if j<m then mPc (qpS k ps j) (ps.getD j Pc.none) else ps.getD j Pc.none
theorem qpA{k:Nat}{ps:List Pc}{m:Nat}:(mNs k ps m).length=ps.length:=by simp[mNs]
theorem qpQ{k:Nat}{ps:List Pc}{m j:Nat}(hj:j<(mNs k ps m).length):(mNs k ps m)[j]=if j<m then mPc (qpS k ps j) (ps.getD j Pc.none) else ps.getD j Pc.none:=by simp[mNs]
theorem qrm{k:Nat}{ps:List Pc}:mNs k ps 0=ps:=by
 apply List.ext_getElem qpA;intro j h1 h2;rw[qpQ,if_neg a_,qam h2]
theorem ON.put4f{B g n cap:Nat}{e:TypeId}{w:World}{F:Nat→Value}(h:ON 6 B e w (.slice (some ⟨g,0,none⟩) n cap) n F){k:Nat}(hk:k<n)(x0 x1 x2 x3:Value):
 ON 6 B e ((((w.setCell ⟨g,k*6,none⟩ x0).setCell ⟨g,k*6+1,none⟩ x1).setCell ⟨g,k*6+2,none⟩ x2).setCell ⟨g,k*6+3,none⟩ x3) (.slice (some ⟨g,0,none⟩) n cap) n
  (fun s=>if s=k*6+3 then x3 else if s=k*6+2 then x2 else if s=k*6+1 then x1 else if s=k*6 then x0 else F s)∧
  w.grownBy ((((w.setCell ⟨g,k*6,none⟩ x0).setCell ⟨g,k*6+1,none⟩ x1).setCell ⟨g,k*6+2,none⟩ x2).setCell ⟨g,k*6+3,none⟩ x3) (some g):=h.put4 hk x0 x1 x2 x3
theorem qpI(ps:List Pc)(v:Value)(k B C:Nat)(w:World)(hv:qbd B C w v ps)(hk:qpS k ps ps.length≤100000000)(hz:∀ j (hj:j<ps.length),ps[j].prf.length≤1048576):
 Calls Tryz.prog 90 #[v,.int .i64 k] w fun e w'=>e=.returned (.int .i64 ((qpS k ps ps.length:Nat):Int))∧qbd B C w' v (mNs k ps ps.length)∧MK NN B C w w':=by
 have HV:=hI_ hv;obtain⟨A,c,rfl⟩:=hv.r.sl;have hm:=hv.r.len;have HZ:=hI_ hz;unfold maxLen at hm;clear hv hz;go_enter Tryz.func90,Tryz.ntmps90
 go_wp2
 go_loopw [1,5] (fun t i wr=>∃ j:Nat,j≤ps.length∧i=.int .i64 j∧t=.int .i64 ((qpS k ps j:Nat):Int)∧qbd B C wr (.slice A ps.length c) (mNs k ps j)∧MK NN B C w wr) (fun _ i _=>ps.length-(intOf i).toNat)
 case atStart=>exact⟨0,Nat.zero_le _,rfl,by rw[qqt],by rw[qrm];exact HV.out,MK.refl _ _ _ _⟩
 case round=>
  obtain⟨j,hj,rfl,rfl,ho,hg⟩:=hrel;have HG:=hI_ hg;clear hg;by_cases hlt:j<ps.length
  · obtain⟨q,HQ⟩:=nm_ (qpS k ps j);have hqb:q≤100000000:=by rw[←HQ.out];exact Nat.le_trans (qqC (ps.length-j) j a_) hk
    obtain⟨hU,F,hN,hF,hD⟩:=ho;rw[qpA] at hN hD;obtain⟨g,cap,hA,hgB,hgs⟩:=hN.form a_;cases hA;have hgC:g<C:=hU g rfl;have hFj:=hF j (by rw[qpA];exact hlt);rw[qpQ,if_neg (Nat.lt_irrefl j),qam hlt] at hFj;have hzj:=HZ.out j hlt;obtain⟨f0,HF0⟩:=nm_ (ps[j]);rw[HF0.out] at hFj hzj;obtain⟨-,-,-,-,-,hfo,hu5⟩:=hFj;obtain⟨xA,xc,hx⟩:=hfo.sl;obtain⟨⟨u0,e0⟩,f0'⟩:(∃ u,wr.cell? ⟨g,j*6,none⟩=some u)∧wr.frozen? ⟨g,j*6,none⟩=false:=by have:=hN.at_ (t:=j*6) a_;exact⟨⟨_,this.1⟩,this.2⟩
    obtain⟨⟨u1,e1⟩,f1'⟩:(∃ u,wr.cell? ⟨g,j*6+1,none⟩=some u)∧wr.frozen? ⟨g,j*6+1,none⟩=false:=by have:=hN.at_ (t:=j*6+1) a_;exact⟨⟨_,this.1⟩,this.2⟩
    obtain⟨⟨u2,e2⟩,f2'⟩:(∃ u,wr.cell? ⟨g,j*6+2,none⟩=some u)∧wr.frozen? ⟨g,j*6+2,none⟩=false:=by have:=hN.at_ (t:=j*6+2) a_;exact⟨⟨_,this.1⟩,this.2⟩
    obtain⟨⟨u3,e3⟩,f3'⟩:(∃ u,wr.cell? ⟨g,j*6+3,none⟩=some u)∧wr.frozen? ⟨g,j*6+3,none⟩=false:=by have:=hN.at_ (t:=j*6+3) a_;exact⟨⟨_,this.1⟩,this.2⟩
    obtain⟨K,HK⟩:∃ K:Int,Hid (((q:Nat):Int)=K):=⟨_,hI_ rfl⟩
    have hK0:0≤K:=by rw[←HK.out];omega
    have hK1:K≤1000000000:=by rw[←HK.out];omega
    have hp:=hN.put4f hlt (.int .i64 K) (.int .i64 (K+1)) (.int .i64 (K+1+1)) (.int .i64 (K+1+1+1));obtain⟨W4,HW4⟩:=nm_ ((((wr.setCell ⟨g,j*6,none⟩ (.int .i64 K)).setCell ⟨g,j*6+1,none⟩ (.int .i64 (K+1))).setCell ⟨g,j*6+2,none⟩ (.int .i64 (K+1+1))).setCell ⟨g,j*6+3,none⟩ (.int .i64 (K+1+1+1)));rw[HW4.out] at hp;obtain⟨hN4,hg4⟩:=hp;have hfo4:=hfo.grown hg4 (qpG hfo hN e_);rw[hx] at hfo4;have HP:=hI_ (show _∧_∧_∧_∧_∧_∧_∧_ from⟨hU,hN,hF,hD,hN4,hg4,hfo,hu5⟩);have H4:=hI_ hfo4;have HX:=hI_ hx;rw[HQ.out,HK.out];clear hU hN hF hD hN4 hg4 hfo hu5 hfo4 hx hgs;go_wp2_with fail
    rw[HW4.out];rw[show K+1+1+1+1=((q+4:Nat):Int) by rw[←HK.out];omega];clear e0 e1 e2 e3 f0' f1' f2' f3';refine(qpH (q+4) W4 a_).mono ?_;rintro e w5 ⟨rfl,hb5⟩;have hN5:=HP.out.2.2.2.2.1.below hb5;obtain⟨d4,g4⟩:=hN5.at_ (t:=j*6+4) a_;obtain⟨hN6,hg6⟩:=hN5.setAt (t:=j*6+4) a_ (.string (mtx (q+4)));have h5:=H4.out.below hb5;have h6:=h5.grown hg6 (qpG h5 hN5 e_);obtain⟨T,HTT⟩:=nm_ (mtx (q+4));rw[HTT.out] at hN6 hg6 h6 ⊢;obtain⟨W6,HW6⟩:=nm_ (w5.setCell ⟨g,j*6+4,none⟩ (.string T));rw[HW6.out] at hN6 hg6 h6;have e5:=(hN6.at_ (t:=j*6+5) a_).1;rw[if_neg a_,if_neg a_,if_neg a_,if_neg a_,if_neg a_,HX.out,←HW6.out] at e5;obtain⟨K5,HK5⟩:∃ K:Int,Hid (((q+4:Nat):Int)=K):=⟨_,hI_ rfl⟩
    have hK5:0≤K5:=by rw[←HK5.out];omega
    have hK6:K5≤1000000000:=by rw[←HK5.out];omega
    have HG6:Hid (wr.grownBy W6 (some g)):=hI_ (qat (qat HP.out.2.2.2.2.2.1 (qaP hb5)) hg6);have HN6:=hI_ hN6;have HO6:=hI_ h6;rw[HK5.out];clear hN5 hN6 hg6 h5 h6 hb5;go_wp2_with fail
    rw[HW6.out];rw[show K5+1=((q+5:Nat):Int) by rw[←HK5.out];omega];clear d4 g4 e5;refine(qqp f0.prf _ (q+5) B W6 HO6.out a_ a_).mono ?_;rintro e w7 ⟨rfl,hm7,hr7⟩;obtain⟨K7,HK7⟩:∃ K:Int,Hid (((q+5+f0.prf.length:Nat):Int)=K):=⟨_,hI_ rfl⟩
    rw[HK7.out];have HM7:=hI_ hm7;have HR7:=hI_ hr7;clear hm7 hr7;go_wp2
    go_roundw
    case rel=>
     obtain⟨hU,hN,hF,hD,-,-,hfo,hu5⟩:=HP.out;have hx:=HX.out;have hN7:=HN6.out.grown HR7.out (by
      rcases qpG HN6.out HO6.out e_ with h|h
      · exact .inl h
      · exact .inr h)
     refine⟨j+1,a_,t_,?_,⟨hU,_,by rw[qpA];exact hN7,fun i hi=> ?_,?_⟩,?_⟩
     · rw[qpY hlt,HQ.out,HF0.out,←HK7.out];unfold pw;congr 1;omega
     · have hi':i<ps.length:=by rw[qpA] at hi;exact hi
       by_cases hij:i=j
       · subst hij;have hgi:(mNs k ps (i+1))[i]'(by rw[qpA];exact hi')=mPc q f0:=by rw[qpQ,if_pos a_,qam hlt,HQ.out,HF0.out]
         rw[hgi];rw[if_neg a_,if_neg a_,if_neg a_,if_neg a_,if_pos rfl];rw[if_neg a_,if_neg a_,if_neg a_,if_pos rfl];rw[if_neg a_,if_neg a_,if_pos rfl];rw[if_neg a_,if_pos rfl,if_pos rfl];rw[if_neg a_,if_neg a_,if_neg a_,if_neg a_,if_neg a_];unfold mPc;rw[←HK.out,←HTT.out];refine⟨rfl,?_,?_,?_,rfl,?_,hu5⟩;iterate 3
          · first|rfl|(congr 1;omega)
         · rw[hx];simpa using HM7.out
       · have hfi:=hF i (by rw[qpA];exact hi');have hsame:(if i<j+1 then mPc (qpS k ps i) (ps.getD i Pc.none) else ps.getD i Pc.none)=(if i<j then mPc (qpS k ps i) (ps.getD i Pc.none) else ps.getD i Pc.none):=by
          by_cases hlt2:i<j
          · rw[if_pos hlt2,if_pos a_]
          · rw[if_neg hlt2,if_neg a_]
         have hgi:(mNs k ps (j+1))[i]'(by rw[qpA];exact hi')=(mNs k ps j)[i]'(by rw[qpA];exact hi'):=by rw[qpQ,qpQ,hsame]
         rw[hgi];obtain⟨a0,a1,a2,a3,a4,a5,a6⟩:=hfi;rw[if_neg a_,if_neg a_,if_neg a_,if_neg a_,if_neg a_];rw[if_neg a_,if_neg a_,if_neg a_,if_neg a_,if_neg a_];rw[if_neg a_,if_neg a_,if_neg a_,if_neg a_,if_neg a_];rw[if_neg a_,if_neg a_,if_neg a_,if_neg a_,if_neg a_];rw[if_neg a_,if_neg a_,if_neg a_,if_neg a_,if_neg a_];rw[if_neg a_,if_neg a_,if_neg a_,if_neg a_,if_neg a_];have d1:=qqK hD hi' hlt hij;rw[hx] at d1;exact⟨a0,a1,a2,a3,a4,(a5.grown HG6.out (qpG a5 hN e_)).grown HR7.out d1,a6⟩
     · rw[qpA];refine hD.congr fun i hi=> ?_;rw[if_neg a_,if_neg a_,if_neg a_,if_neg a_,if_neg a_]
     · rw[hx] at hu5;exact(HG.out.trans (MK.grown HG6.out (fun k hk=>by cases hk;exact⟨hgB,hgC⟩) (hN.off e_))).trans (MK.grown HR7.out (fun k hk=>⟨(HO6.out.lt k hk).1,hu5 k hk⟩) (HO6.out.off e_))
    case measure=>simp[intOf];omega
  · obtain rfl:j=ps.length:=a_;go_wp2
    go_ret;exact⟨rfl,ho,HG.out⟩
theorem qqA(a b:Int)(w:World):gV 165 #[.agg #[.int .i64 a,.int .i64 b],.agg #[.int .i64 a,.int .i64 b]] w (.bool true):=by
 go_enter Tryz.func165,Tryz.ntmps165
 go_wp2
 go_ret;exact⟨rfl,((bR_ _ _).alloc (nr_ _) _).alloc k_ _⟩
theorem qqU(a b:Int)(w:World):gV 232 #[.agg #[.int .i64 a,.int .i64 b],.agg #[.int .i64 a,.int .i64 b]] w (.bool true):=by
 go_enter Tryz.func232,Tryz.ntmps232
 go_wp2
 go_ret;exact⟨rfl,((bR_ _ _).alloc (nr_ _) _).alloc k_ _⟩
theorem qql(p:Pc)(x y:Value)(w:World)(hx:RI w x p.prf)(hy:RI w y p.prf):
 gV 167 #[.agg #[.int .i64 p.fr,.int .i64 p.to_,.int .i64 p.len,.int .i64 p.idx,.string p.txt,x],.agg #[.int .i64 p.fr,.int .i64 p.to_,.int .i64 p.len,.int .i64 p.idx,.string p.txt,y]] w (.bool true):=by
 have HA:=hI_ ((hx.alloc (.cells #[.int .i64 p.fr,.int .i64 p.to_,.int .i64 p.len,.int .i64 p.idx,.string p.txt,x] 57)).alloc (.cells #[.int .i64 p.fr,.int .i64 p.to_,.int .i64 p.len,.int .i64 p.idx,.string p.txt,y] 57));have HB:=hI_ ((hy.alloc (.cells #[.int .i64 p.fr,.int .i64 p.to_,.int .i64 p.len,.int .i64 p.idx,.string p.txt,x] 57)).alloc (.cells #[.int .i64 p.fr,.int .i64 p.to_,.int .i64 p.len,.int .i64 p.idx,.string p.txt,y] 57));clear hx hy;go_enter Tryz.func167,Tryz.ntmps167
 go_wp2_with (go_at_call 233;refine(qnF p.prf _ _ _ HA.out HB.out).mono ?_;rintro e w2 ⟨rfl,hb2⟩)
 go_ret;exact⟨rfl,(((bR_ _ _).alloc (nr_ _) _).alloc k_ _).trans (hb2.mono n_)⟩
theorem qqk(l:List (Int×Int))(va vb:Value)(w:World)(ha:RP w va l)(hb:RP w vb l):
 gV 84 #[va,vb] w (.bool true):=by
 have HA:=hI_ ha;have HB:=hI_ hb;have hm:=ha.len;obtain⟨A,c,rfl⟩:=ha.sl;obtain⟨A2,c2,rfl⟩:=hb.sl;unfold maxLen at hm;clear ha hb;have hnn:((l.length:Int)!=(l.length:Int))=false:=k_;go_enter Tryz.func84,Tryz.ntmps84
 go_wp2
 go_loopw [5] (fun i wr=>∃ k:Nat,k≤l.length∧i=.int .i64 k∧bB w wr) (fun i _=>l.length-(intOf i).toNat)
 case atStart=>exact⟨0,Nat.zero_le _,rfl,bR_ _ _⟩
 case round=>
  obtain⟨k,hk,rfl,hbw⟩:=hrel;by_cases hlt:k<l.length
  · obtain⟨b,o,rfl,hbs,e0,e1⟩:=(HA.out.below hbw).at_ hlt;obtain⟨b',o',rfl,hbs',d0,d1⟩:=(HB.out.below hbw).at_ hlt;generalize l[k]=x at*
    have hup:=qap wr;have hki:(k:Int)<(l.length:Int):=a_;have hk0:(0:Int)≤(k:Int):=a_;go_wp2
    refine qoH ?_;repeat(go_big_quiet_step ((go_at_call 165;exact qal (qqA _ _ _))))
    refine wq_ fun w1 hb1=>?_;clear hup;go_wp2
    go_roundw
    case rel=>exact⟨k+1,a_,t_,hbw.trans (hb1.mono hbw.size)⟩
    case measure=>simp[intOf];omega
  · go_wp2
    go_ret;exact⟨rfl,hbw⟩
theorem qqz(l:List (Int×Int))(va vb:Value)(w:World)(ha:RP w va l)(hb:RP w vb l):
 gV 166 #[va,vb] w (.bool true):=by
 have HA:=hI_ ha;have HB:=hI_ hb;have hm:=ha.len;obtain⟨A,c,rfl⟩:=ha.sl;obtain⟨A2,c2,rfl⟩:=hb.sl;unfold maxLen at hm;clear ha hb;have hnn:((l.length:Int)!=(l.length:Int))=false:=k_;go_enter Tryz.func166,Tryz.ntmps166
 go_wp2
 go_loopw [5] (fun i wr=>∃ k:Nat,k≤l.length∧i=.int .i64 k∧bB w wr) (fun i _=>l.length-(intOf i).toNat)
 case atStart=>exact⟨0,Nat.zero_le _,rfl,bR_ _ _⟩
 case round=>
  obtain⟨k,hk,rfl,hbw⟩:=hrel;by_cases hlt:k<l.length
  · obtain⟨b,o,rfl,hbs,e0,e1⟩:=(HA.out.below hbw).at_ hlt;obtain⟨b',o',rfl,hbs',d0,d1⟩:=(HB.out.below hbw).at_ hlt;generalize l[k]=x at*
    have hup:=qap wr;have hki:(k:Int)<(l.length:Int):=a_;have hk0:(0:Int)≤(k:Int):=a_;go_wp2
    refine qoH ?_;repeat(go_big_quiet_step ((go_at_call 232;exact qal (qqU _ _ _))))
    refine wq_ fun w1 hb1=>?_;clear hup;go_wp2
    go_roundw
    case rel=>exact⟨k+1,a_,t_,hbw.trans (hb1.mono hbw.size)⟩
    case measure=>simp[intOf];omega
  · go_wp2
    go_ret;exact⟨rfl,hbw⟩
theorem qqi(l:List (List (Int×Int)))(va vb:Value)(w:World)(ha:qdh w va l)(hb:qdh w vb l):
 gV 85 #[va,vb] w (.bool true):=by
 have HA:=hI_ ha;have HB:=hI_ hb;have hm:=ha.len;obtain⟨A,c,rfl⟩:=ha.sl;obtain⟨A2,c2,rfl⟩:=hb.sl;unfold maxLen at hm;clear ha hb;have hnn:((l.length:Int)!=(l.length:Int))=false:=k_;go_enter Tryz.func85,Tryz.ntmps85
 go_wp2
 go_loopw [5] (fun i wr=>∃ k:Nat,k≤l.length∧i=.int .i64 k∧bB w wr) (fun i _=>l.length-(intOf i).toNat)
 case atStart=>exact⟨0,Nat.zero_le _,rfl,bR_ _ _⟩
 case round=>
  obtain⟨k,hk,rfl,hbw⟩:=hrel;by_cases hlt:k<l.length
  · obtain⟨b,o,x,rfl,hbs,e0,e1⟩:=(HA.out.below hbw).at_ hlt;obtain⟨b',o',y,rfl,hbs',d0,d1⟩:=(HB.out.below hbw).at_ hlt;have HE:=hI_ e1;have HD:=hI_ d1;clear e1 d1;generalize l[k]=f at*
    have hup:=qap wr;have hki:(k:Int)<(l.length:Int):=a_;have hk0:(0:Int)≤(k:Int):=a_;go_wp2
    refine qoH ?_;repeat(go_big_quiet_step ((go_at_call 166;exact qal (qqz f _ _ _ (HE.out.below (qao _ _)) (HD.out.below (qao _ _))))))
    refine wq_ fun w1 hb1=>?_;clear hup;go_wp2
    go_roundw
    case rel=>exact⟨k+1,a_,t_,hbw.trans (hb1.mono hbw.size)⟩
    case measure=>simp[intOf];omega
  · go_wp2
    go_ret;exact⟨rfl,hbw⟩
theorem qp5(l:List Pc)(va vb:Value)(w:World)(ha:qbx w va l)(hb:qbx w vb l):
 gV 86 #[va,vb] w (.bool true):=by
 have HA:=hI_ ha;have HB:=hI_ hb;have hm:=ha.len;obtain⟨A,c,rfl⟩:=ha.sl;obtain⟨A2,c2,rfl⟩:=hb.sl;unfold maxLen at hm;clear ha hb;have hnn:((l.length:Int)!=(l.length:Int))=false:=k_;go_enter Tryz.func86,Tryz.ntmps86
 go_wp2
 go_loopw [5] (fun i wr=>∃ k:Nat,k≤l.length∧i=.int .i64 k∧bB w wr) (fun i _=>l.length-(intOf i).toNat)
 case atStart=>exact⟨0,Nat.zero_le _,rfl,bR_ _ _⟩
 case round=>
  obtain⟨k,hk,rfl,hbw⟩:=hrel;by_cases hlt:k<l.length
  · obtain⟨b,o,x,rfl,hbs,e0,e1,e2,e3,e4,e5,e6⟩:=(HA.out.below hbw).at_ hlt;obtain⟨b',o',y,rfl,hbs',d0,d1,d2,d3,d4,d5,d6⟩:=(HB.out.below hbw).at_ hlt;have HE:=hI_ e6;have HD:=hI_ d6;clear e6 d6;generalize l[k]=f at*
    have hup:=qap wr;have hki:(k:Int)<(l.length:Int):=a_;have hk0:(0:Int)≤(k:Int):=a_;go_wp2
    refine qoH ?_;repeat(go_big_quiet_step ((go_at_call 167;exact qal (qql f _ _ _ (HE.out.below (qao _ _)) (HD.out.below (qao _ _))))))
    refine wq_ fun w1 hb1=>?_;clear hup;go_wp2
    go_roundw
    case rel=>exact⟨k+1,a_,t_,hbw.trans (hb1.mono hbw.size)⟩
    case measure=>simp[intOf];omega
  · go_wp2
    go_ret;exact⟨rfl,hbw⟩
theorem qpC(x:Wd)(vF vL vA vN uF uL uA uN:Value)(w:World)(hv:WdR w x vF vL vA vN)(hu:WdR w x uF uL uA uN):
 gV 39 #[.agg #[.int .i64 x.sec,.int .i64 x.bad,vF,vL,vA,vN],.agg #[.int .i64 x.sec,.int .i64 x.bad,uF,uL,uA,uN]] w (.bool true):=by
 obtain⟨W2,HW2⟩:=nm_ ((w.alloc (.cells #[.int .i64 x.sec,.int .i64 x.bad,vF,vL,vA,vN] 28)).alloc (.cells #[.int .i64 x.sec,.int .i64 x.bad,uF,uL,uA,uN] 28));have hb2:bB w W2:=by rw[←HW2.out];exact((bR_ _ _).alloc (nr_ _) _).alloc k_ _
 have hp:W2.heap[w.heap.size]? =some (.cells #[.int .i64 x.sec,.int .i64 x.bad,vF,vL,vA,vN] 28 (0,0)):=by
  rw[←HW2.out,heap_alloc_old _ _ k_];exact heap_alloc_new w _
 have hq:W2.heap[w.heap.size+1]? =some (.cells #[.int .i64 x.sec,.int .i64 x.bad,uF,uL,uA,uN] 28 (0,0)):=by
  rw[←HW2.out];have:=heap_alloc_new (w.alloc (.cells #[.int .i64 x.sec,.int .i64 x.bad,vF,vL,vA,vN] 28)) (.cells #[.int .i64 x.sec,.int .i64 x.bad,uF,uL,uA,uN] 28);simpa using this
 have lp:=(Array.getElem?_eq_some_iff.1 hp).1;have lq:=(Array.getElem?_eq_some_iff.1 hq).1;have HV:=hI_ (hv.below hb2);have HU:=hI_ (hu.below hb2);obtain⟨p0,p1,p2,p3,p4,p5,pf⟩:=qaa hp;obtain⟨q0,q1,q2,q3,q4,q5,qf⟩:=qaa hq;have HP:=hI_ hp;have HQ:=hI_ hq;clear hp hq hv hu;have hss:(x.sec !=x.sec)=false:=k_;have hbb:(x.bad !=x.bad)=false:=k_;go_enter Tryz.func39,Tryz.ntmps39
 go_wp2_with fail
 rw[HW2.out];go_wp2_with fail
 refine(qqj x.feeds _ _ W2 HV.out.feeds HU.out.feeds).mono ?_;rintro e w3 ⟨rfl,hb3⟩;clear p0 p1 p2 p3 p4 p5 pf q0 q1 q2 q3 q4 q5 qf;obtain⟨p0,p1,p2,p3,p4,p5,pf⟩:=qaa ((hb3.block _ lp).trans HP.out);obtain⟨q0,q1,q2,q3,q4,q5,qf⟩:=qaa ((hb3.block _ lq).trans HQ.out);go_wp2_with fail
 refine(qqk x.links _ _ w3 (HV.out.below hb3).links (HU.out.below hb3).links).mono ?_;rintro e w4 ⟨rfl,hb4⟩;have hb24:=qa3 hb3 hb4;clear p0 p1 p2 p3 p4 p5 pf q0 q1 q2 q3 q4 q5 qf;obtain⟨p0,p1,p2,p3,p4,p5,pf⟩:=qaa ((hb24.block _ lp).trans HP.out);obtain⟨q0,q1,q2,q3,q4,q5,qf⟩:=qaa ((hb24.block _ lq).trans HQ.out);go_wp2_with fail
 refine(qqi x.asked _ _ w4 (HV.out.below hb24).asked (HU.out.below hb24).asked).mono ?_;rintro e w5 ⟨rfl,hb5⟩;have hb25:=qa3 hb24 hb5;clear p0 p1 p2 p3 p4 p5 pf q0 q1 q2 q3 q4 q5 qf;obtain⟨p0,p1,p2,p3,p4,p5,pf⟩:=qaa ((hb25.block _ lp).trans HP.out);obtain⟨q0,q1,q2,q3,q4,q5,qf⟩:=qaa ((hb25.block _ lq).trans HQ.out);go_wp2_with fail
 refine(qp5 x.net _ _ w5 (HV.out.below hb25).net (HU.out.below hb25).net).mono ?_;rintro e w6 ⟨rfl,hb6⟩;have hb26:=qa3 hb25 hb6;go_wp2
 go_ret;exact⟨rfl,hb2.trans (hb26.mono hb2.size)⟩
structure qrB (x:Wd):Prop where
 f0:x.feeds.length≤1048576
 f1:∀ j (hj:j<x.feeds.length),x.feeds[j].bl.length≤1048576∧x.feeds[j].hv.length≤1048576
 l0:x.links.length≤1048576
 k0:x.asked.length≤1048576
 k1:∀ j (hj:j<x.asked.length),x.asked[j].length≤1048576
 n0:x.net.length≤1048576
 n1:∀ j (hj:j<x.net.length),x.net[j].prf.length≤1048576
structure qrA (x:Wd):Prop where
 f:∀ j (hj:j<x.feeds.length),∀ t ∈ x.feeds[j].bl,t.size≤maxLen
 n:∀ j (hj:j<x.net.length),x.net[j].txt.size≤maxLen
theorem qpv{w:World}{q i k:Nat}{u:Value}{o:Option Obj}(h:w.heap[k]? =o)(hk:k≠q):(w.setCell ⟨q,i,none⟩ u).heap[k]? =o:=(Below.heap_setCell w ⟨q,i,none⟩ u k hk).trans h
def qrs(x:Wd)(w:World)(e:Ending)(w':World):Prop:=∃ A1 c1 A2 c2 A3 c3 A4 c4,e=.returned (.agg #[.int .i64 x.sec,.int .i64 x.bad,.slice A1 x.feeds.length c1,.slice A2 x.links.length c2,.slice A3 x.asked.length c3,.slice A4 x.net.length c4])∧WdO w.heap.size w'.heap.size w' x (.slice A1 x.feeds.length c1) (.slice A2 x.links.length c2) (.slice A3 x.asked.length c3) (.slice A4 x.net.length c4)∧bB w w'
theorem qpF(x:Wd)(vF vL vK vN:Value)(w:World)(hx:WdR w x vF vL vK vN)(hz:qrB x):
 Calls Tryz.prog 37 #[.agg #[.int .i64 x.sec,.int .i64 x.bad,vF,vL,vK,vN]] w (qrs x w):=by
 obtain⟨s,b,fs,ls,ks,ps⟩:=x;obtain⟨q,HQQ⟩:=nm_ w.heap.size;obtain⟨W0,HW0⟩:=nm_ (((w.alloc (.cells #[.int .i64 s,.int .i64 b,vF,vL,vK,vN] 68)).alloc (.cells #[.int .i64 0,.int .i64 0,.slice none 0 0,.slice none 0 0,.slice none 0 0,.slice none 0 0] 28)).alloc (.cells #[.int .i64 s,.int .i64 b,.slice none 0 0,.slice none 0 0,.slice none 0 0,.slice none 0 0] 28));have HB0:Hid (Below q w W0):=hI_ (by rw[←HW0.out,←HQQ.out];exact(((bR_ _ _).alloc (nr_ _) _).alloc k_ _).alloc n_ _);have hs0:W0.heap.size=q+1+1+1:=by rw[←HW0.out,←HQQ.out];simp
 have hp:W0.heap[q]? =some (.cells #[.int .i64 s,.int .i64 b,vF,vL,vK,vN] 68 (0,0)):=by
  rw[←HW0.out,←HQQ.out,heap_alloc_old _ _ n_,heap_alloc_old _ _ k_];exact heap_alloc_new w _
 have hy:W0.heap[q+1]? =some (.cells #[.int .i64 0,.int .i64 0,.slice none 0 0,.slice none 0 0,.slice none 0 0,.slice none 0 0] 28 (0,0)):=by
  rw[←HW0.out,←HQQ.out,heap_alloc_old _ _ k_];have:=heap_alloc_new (w.alloc (.cells #[.int .i64 s,.int .i64 b,vF,vL,vK,vN] 68)) (.cells #[.int .i64 0,.int .i64 0,.slice none 0 0,.slice none 0 0,.slice none 0 0,.slice none 0 0] 28);simpa using this
 have ho:W0.heap[q+1+1]? =some (.cells #[.int .i64 s,.int .i64 b,.slice none 0 0,.slice none 0 0,.slice none 0 0,.slice none 0 0] 28 (0,0)):=by
  rw[←HW0.out,←HQQ.out];have:=heap_alloc_new ((w.alloc (.cells #[.int .i64 s,.int .i64 b,vF,vL,vK,vN] 68)).alloc (.cells #[.int .i64 0,.int .i64 0,.slice none 0 0,.slice none 0 0,.slice none 0 0,.slice none 0 0] 28)) (.cells #[.int .i64 s,.int .i64 b,.slice none 0 0,.slice none 0 0,.slice none 0 0,.slice none 0 0] 28);simpa using this
 have HX:=hI_ hx;have HR0:=hI_ (hx.below (by show Below w.heap.size w W0;rw[HQQ.out];exact HB0.out));have HZ:=hI_ hz;have HS0:=hI_ hs0;have lq:q<W0.heap.size:=a_;have lq1:q+1<W0.heap.size:=a_;have lq2:q+1+1<W0.heap.size:=a_;have n1:q≠q+1+1:=a_;have n2:q+1≠q+1+1:=a_;have HP:=hI_ hp;have HY:=hI_ hy;have HO:=hI_ ho;have hw:w.heap.size=q:=HQQ.out;clear hp hy ho hx hz hs0;go_enter Tryz.func37,Tryz.ntmps37
 go_wp2_with fail
 clear hw;rw[HW0.out];refine(qqH fs _ W0 HR0.out.feeds HZ.out.f0 HZ.out.f1).mono ?_;rintro e w1 ⟨rfl,ho1,hb1⟩;obtain⟨A1,HA1⟩:=nm_ (some (⟨W0.heap.size,0,none⟩:Addr));rw[HA1.out] at ho1 ⊢;have hqs1:q≤W0.heap.size:=Nat.le_of_lt (Array.getElem?_eq_some_iff.1 HP.out).1;have hb01:Below q w w1:=HB0.out.trans (hb1.mono hqs1);have hp:=(hb1.block _ (Array.getElem?_eq_some_iff.1 HP.out).1).trans HP.out;have hy:=(hb1.block _ (Array.getElem?_eq_some_iff.1 HY.out).1).trans HY.out;have hoo:=(hb1.block _ (Array.getElem?_eq_some_iff.1 HO.out).1).trans HO.out;obtain⟨p0,p1,p2,p3,p4,p5,pf⟩:=qaa hp;obtain⟨o0,o1,o2,o3,o4,o5,of⟩:=qaa hoo;obtain⟨W1,HW1⟩:=nm_ (w1.setCell ⟨q+1+1,2,none⟩ (.slice A1 fs.length fs.length));have HBW1:Hid (Below q w W1):=hI_ (by rw[←HW1.out];exact hb01.setCell (p:=⟨q+1+1,2,none⟩) (by show q≤q+1+1;omega) _);have HP1:Hid (W1.heap[q]? =some (.cells #[.int .i64 s,.int .i64 b,vF,vL,vK,vN] 68 (0,0))):=hI_ (by rw[←HW1.out];exact qpv hp n1);have HY1:Hid (W1.heap[q+1]? =some (.cells #[.int .i64 0,.int .i64 0,.slice none 0 0,.slice none 0 0,.slice none 0 0,.slice none 0 0] 28 (0,0))):=hI_ (by rw[←HW1.out];exact qpv hy n2);have HO1:Hid (W1.heap[q+1+1]? =some (.cells #[.int .i64 s,.int .i64 b,.slice A1 fs.length fs.length,.slice none 0 0,.slice none 0 0,.slice none 0 0] 28 (0,0))):=hI_ (by rw[←HW1.out];exact qas hoo _);have HSW1:Hid (W0.heap.size≤W1.heap.size):=hI_ (by rw[←HW1.out];simp only[World.size_setCell];exact Nat.le_trans (nr_ _) hb1.size);have Rf1:Hid (qa7 W0.heap.size W1.heap.size W1 (.slice A1 fs.length fs.length) fs):=hI_ (by rw[←HW1.out];exact(ho1.mono (nr_ _) k_).setb (p:=⟨q+1+1,2,none⟩) (nL_ lq2 (nr_ _)) _);have HWW1:Hid (W0.heap.size≤W1.heap.size):=hI_ (by rw[←HW1.out];simp only[World.size_setCell];exact hb1.size);have HR1:=hI_ (HX.out.below (by show Below w.heap.size w _;rw[HQQ.out];exact HBW1.out));have lp1:q<w1.heap.size:=(Array.getElem?_eq_some_iff.1 hp).1;have lo1:q+1+1<w1.heap.size:=(Array.getElem?_eq_some_iff.1 hoo).1;clear hp hy hoo ho1 hb1 hb01 hqs1;go_wp2_with fail
 rw[HW1.out];clear p0 p1 p2 p3 p4 p5 pf o0 o1 o2 o3 o4 o5 of lp1 lo1;refine(qqI ls _ W1 HR1.out.links HZ.out.l0).mono ?_;rintro e w2 ⟨rfl,ho2,hb2⟩;obtain⟨A2,HA2⟩:=nm_ (some (⟨W1.heap.size,0,none⟩:Addr));rw[HA2.out] at ho2 ⊢;have hqs2:q≤W1.heap.size:=Nat.le_of_lt (Array.getElem?_eq_some_iff.1 HP1.out).1;have hb02:Below q w w2:=HBW1.out.trans (hb2.mono hqs2);have hp:=(hb2.block _ (Array.getElem?_eq_some_iff.1 HP1.out).1).trans HP1.out;have hy:=(hb2.block _ (Array.getElem?_eq_some_iff.1 HY1.out).1).trans HY1.out;have hoo:=(hb2.block _ (Array.getElem?_eq_some_iff.1 HO1.out).1).trans HO1.out;obtain⟨p0,p1,p2,p3,p4,p5,pf⟩:=qaa hp;obtain⟨o0,o1,o2,o3,o4,o5,of⟩:=qaa hoo;obtain⟨W2,HW2⟩:=nm_ (w2.setCell ⟨q+1+1,3,none⟩ (.slice A2 ls.length ls.length));have HBW2:Hid (Below q w W2):=hI_ (by rw[←HW2.out];exact hb02.setCell (p:=⟨q+1+1,3,none⟩) (by show q≤q+1+1;omega) _);have HP2:Hid (W2.heap[q]? =some (.cells #[.int .i64 s,.int .i64 b,vF,vL,vK,vN] 68 (0,0))):=hI_ (by rw[←HW2.out];exact qpv hp n1);have HY2:Hid (W2.heap[q+1]? =some (.cells #[.int .i64 0,.int .i64 0,.slice none 0 0,.slice none 0 0,.slice none 0 0,.slice none 0 0] 28 (0,0))):=hI_ (by rw[←HW2.out];exact qpv hy n2);have HO2:Hid (W2.heap[q+1+1]? =some (.cells #[.int .i64 s,.int .i64 b,.slice A1 fs.length fs.length,.slice A2 ls.length ls.length,.slice none 0 0,.slice none 0 0] 28 (0,0))):=hI_ (by rw[←HW2.out];exact qas hoo _);have HSW2:Hid (W0.heap.size≤W2.heap.size):=hI_ (by rw[←HW2.out];simp only[World.size_setCell];exact Nat.le_trans HSW1.out hb2.size);have Rf2:=hI_ (by rw[←HW2.out];exact(Rf1.out.below hb2).setb (p:=⟨q+1+1,3,none⟩) (nL_ lq2 (nr_ _)) _:qa7 W0.heap.size W1.heap.size W2 _ _);have Rl2:Hid (qct W1.heap.size W2.heap.size 99 W2 (.slice A2 ls.length ls.length) ls):=hI_ (by rw[←HW2.out];exact(ho2.mono (nr_ _) k_).setb (p:=⟨q+1+1,3,none⟩) (nL_ lq2 HSW1.out) _);have HWW2:Hid (W1.heap.size≤W2.heap.size):=hI_ (by rw[←HW2.out];simp only[World.size_setCell];exact hb2.size);have HR2:=hI_ (HX.out.below (by show Below w.heap.size w _;rw[HQQ.out];exact HBW2.out));have lp2:q<w2.heap.size:=(Array.getElem?_eq_some_iff.1 hp).1;have lo2:q+1+1<w2.heap.size:=(Array.getElem?_eq_some_iff.1 hoo).1;clear hp hy hoo ho2 hb2 hb02 hqs2;go_wp2_with fail
 rw[HW2.out];clear p0 p1 p2 p3 p4 p5 pf o0 o1 o2 o3 o4 o5 of lp2 lo2;refine(qqF ks _ W2 HR2.out.asked HZ.out.k0 HZ.out.k1).mono ?_;rintro e w3 ⟨rfl,ho3,hb3⟩;obtain⟨A3,HA3⟩:=nm_ (some (⟨W2.heap.size,0,none⟩:Addr));rw[HA3.out] at ho3 ⊢;have hqs3:q≤W2.heap.size:=Nat.le_of_lt (Array.getElem?_eq_some_iff.1 HP2.out).1;have hb03:Below q w w3:=HBW2.out.trans (hb3.mono hqs3);have hp:=(hb3.block _ (Array.getElem?_eq_some_iff.1 HP2.out).1).trans HP2.out;have hy:=(hb3.block _ (Array.getElem?_eq_some_iff.1 HY2.out).1).trans HY2.out;have hoo:=(hb3.block _ (Array.getElem?_eq_some_iff.1 HO2.out).1).trans HO2.out;obtain⟨p0,p1,p2,p3,p4,p5,pf⟩:=qaa hp;obtain⟨o0,o1,o2,o3,o4,o5,of⟩:=qaa hoo;obtain⟨W3,HW3⟩:=nm_ (w3.setCell ⟨q+1+1,4,none⟩ (.slice A3 ks.length ks.length));have HBW3:Hid (Below q w W3):=hI_ (by rw[←HW3.out];exact hb03.setCell (p:=⟨q+1+1,4,none⟩) (by show q≤q+1+1;omega) _);have HP3:Hid (W3.heap[q]? =some (.cells #[.int .i64 s,.int .i64 b,vF,vL,vK,vN] 68 (0,0))):=hI_ (by rw[←HW3.out];exact qpv hp n1);have HY3:Hid (W3.heap[q+1]? =some (.cells #[.int .i64 0,.int .i64 0,.slice none 0 0,.slice none 0 0,.slice none 0 0,.slice none 0 0] 28 (0,0))):=hI_ (by rw[←HW3.out];exact qpv hy n2);have HO3:Hid (W3.heap[q+1+1]? =some (.cells #[.int .i64 s,.int .i64 b,.slice A1 fs.length fs.length,.slice A2 ls.length ls.length,.slice A3 ks.length ks.length,.slice none 0 0] 28 (0,0))):=hI_ (by rw[←HW3.out];exact qas hoo _);have HSW3:Hid (W0.heap.size≤W3.heap.size):=hI_ (by rw[←HW3.out];simp only[World.size_setCell];exact Nat.le_trans HSW2.out hb3.size);have Rf3:=hI_ (by rw[←HW3.out];exact(Rf2.out.below hb3).setb (p:=⟨q+1+1,4,none⟩) (nL_ lq2 (nr_ _)) _:qa7 W0.heap.size W1.heap.size W3 _ _);have Rl3:=hI_ (by rw[←HW3.out];exact(Rl2.out.below hb3).setb (p:=⟨q+1+1,4,none⟩) (nL_ lq2 HSW1.out) _:qct W1.heap.size W2.heap.size 99 W3 _ _);have Ra3:Hid (qcA W2.heap.size W3.heap.size W3 (.slice A3 ks.length ks.length) ks):=hI_ (by rw[←HW3.out];exact(ho3.mono (nr_ _) k_).setb (p:=⟨q+1+1,4,none⟩) (nL_ lq2 HSW2.out) _);have HWW3:Hid (W2.heap.size≤W3.heap.size):=hI_ (by rw[←HW3.out];simp only[World.size_setCell];exact hb3.size);have HR3:=hI_ (HX.out.below (by show Below w.heap.size w _;rw[HQQ.out];exact HBW3.out));have lp3:q<w3.heap.size:=(Array.getElem?_eq_some_iff.1 hp).1;have lo3:q+1+1<w3.heap.size:=(Array.getElem?_eq_some_iff.1 hoo).1;clear hp hy hoo ho3 hb3 hb03 hqs3;go_wp2_with fail
 rw[HW3.out];clear p0 p1 p2 p3 p4 p5 pf o0 o1 o2 o3 o4 o5 of lp3 lo3;refine(qqw ps _ W3 HR3.out.net HZ.out.n0 HZ.out.n1).mono ?_;rintro e w4 ⟨rfl,ho4,hb4⟩;obtain⟨A4,HA4⟩:=nm_ (some (⟨W3.heap.size,0,none⟩:Addr));rw[HA4.out] at ho4 ⊢;have hqs4:q≤W3.heap.size:=Nat.le_of_lt (Array.getElem?_eq_some_iff.1 HP3.out).1;have hb04:Below q w w4:=HBW3.out.trans (hb4.mono hqs4);have hp:=(hb4.block _ (Array.getElem?_eq_some_iff.1 HP3.out).1).trans HP3.out;have hy:=(hb4.block _ (Array.getElem?_eq_some_iff.1 HY3.out).1).trans HY3.out;have hoo:=(hb4.block _ (Array.getElem?_eq_some_iff.1 HO3.out).1).trans HO3.out;obtain⟨p0,p1,p2,p3,p4,p5,pf⟩:=qaa hp;obtain⟨o0,o1,o2,o3,o4,o5,of⟩:=qaa hoo;obtain⟨W4,HW4⟩:=nm_ (w4.setCell ⟨q+1+1,5,none⟩ (.slice A4 ps.length ps.length));have HBW4:Hid (Below q w W4):=hI_ (by rw[←HW4.out];exact hb04.setCell (p:=⟨q+1+1,5,none⟩) (by show q≤q+1+1;omega) _);have HP4:Hid (W4.heap[q]? =some (.cells #[.int .i64 s,.int .i64 b,vF,vL,vK,vN] 68 (0,0))):=hI_ (by rw[←HW4.out];exact qpv hp n1);have HY4:Hid (W4.heap[q+1]? =some (.cells #[.int .i64 0,.int .i64 0,.slice none 0 0,.slice none 0 0,.slice none 0 0,.slice none 0 0] 28 (0,0))):=hI_ (by rw[←HW4.out];exact qpv hy n2);have HO4:Hid (W4.heap[q+1+1]? =some (.cells #[.int .i64 s,.int .i64 b,.slice A1 fs.length fs.length,.slice A2 ls.length ls.length,.slice A3 ks.length ks.length,.slice A4 ps.length ps.length] 28 (0,0))):=hI_ (by rw[←HW4.out];exact qas hoo _);have HSW4:Hid (W0.heap.size≤W4.heap.size):=hI_ (by rw[←HW4.out];simp only[World.size_setCell];exact Nat.le_trans HSW3.out hb4.size);have Rf4:=hI_ (by rw[←HW4.out];exact(Rf3.out.below hb4).setb (p:=⟨q+1+1,5,none⟩) (nL_ lq2 (nr_ _)) _:qa7 W0.heap.size W1.heap.size W4 _ _);have Rl4:=hI_ (by rw[←HW4.out];exact(Rl3.out.below hb4).setb (p:=⟨q+1+1,5,none⟩) (nL_ lq2 HSW1.out) _:qct W1.heap.size W2.heap.size 99 W4 _ _);have Ra4:=hI_ (by rw[←HW4.out];exact(Ra3.out.below hb4).setb (p:=⟨q+1+1,5,none⟩) (nL_ lq2 HSW2.out) _:qcA W2.heap.size W3.heap.size W4 _ _);have Rn4:Hid (qbd W3.heap.size W4.heap.size W4 (.slice A4 ps.length ps.length) ps):=hI_ (by rw[←HW4.out];exact(ho4.mono (nr_ _) k_).setb (p:=⟨q+1+1,5,none⟩) (nL_ lq2 HSW3.out) _);have HWW4:Hid (W3.heap.size≤W4.heap.size):=hI_ (by rw[←HW4.out];simp only[World.size_setCell];exact hb4.size);obtain⟨z0,z1,z2,z3,z4,z5,zf⟩:=qaa hy;have lp4:q<w4.heap.size:=(Array.getElem?_eq_some_iff.1 hp).1;have lo4:q+1+1<w4.heap.size:=(Array.getElem?_eq_some_iff.1 hoo).1;have ly4:q+1<w4.heap.size:=(Array.getElem?_eq_some_iff.1 hy).1;obtain⟨x0,x1,x2,x3,x4,x5,xf⟩:=qaa HO4.out;obtain⟨y0,y1,y2,y3,y4,y5,yf⟩:=qaa HY4.out;rw[←HW4.out] at x0 x1 x2 x3 x4 x5 xf y0 y1 y2 y3 y4 y5 yf;have HB4:=HBW4.out;rw[←HW4.out] at HB4;have HB4':=hI_ HB4;have hL:=hI_ lq1;have HQQ':=HQQ;clear hp hy hoo ho4 hb4 hb04 hqs4 HB4 z0 z1 z2 z3 z4 z5 zf;have Q4:=hI_ (show qa7 W0.heap.size W1.heap.size W4 _ _∧qct W1.heap.size W2.heap.size 99 W4 _ _∧qcA W2.heap.size W3.heap.size W4 _ _∧qbd W3.heap.size W4.heap.size W4 _ _ from⟨Rf4.out,Rl4.out,Ra4.out,Rn4.out⟩);have Q5:=Q4.out;rw[←HW4.out] at Q5;have Q6:=hI_ Q5;clear Q5 Q4;go_wp2
 refine bodyPost_ret (v:=.agg #[.int .i64 s,.int .i64 b,.slice A1 fs.length fs.length,.slice A2 ls.length ls.length,.slice A3 ks.length ks.length,.slice A4 ps.length ps.length]) (by simp[results,Tryz.results37,go_sem,y0,y1,y2,y3,y4,y5]) rfl ⟨A1,_,A2,_,A3,_,A4,_,rfl,?_,?_⟩
 · obtain⟨q1,q2,q3,q4⟩:=Q6.out;have hle:w.heap.size≤W0.heap.size:=by rw[HQQ.out];exact Nat.le_of_lt lq
   refine WdO.mono (C:=(w4.setCell ⟨q+1+1,5,none⟩ (.slice A4 ps.length ps.length)).heap.size) ?_ hle k_;refine⟨W1.heap.size,W2.heap.size,W3.heap.size,HWW1.out,HWW2.out,HWW3.out,by rw[HW4.out];exact HWW4.out,?_,?_,?_,?_⟩
   · refine qa7.setb (qa7.setb (qa7.setb (qa7.setb (qa7.setb (qa7.setb ?_ ?_ _) ?_ _) ?_ _) ?_ _) ?_ _) ?_ _
     · exact q1
     all_goals exact lq1
   · refine qct.setb (qct.setb (qct.setb (qct.setb (qct.setb (qct.setb ?_ ?_ _) ?_ _) ?_ _) ?_ _) ?_ _) ?_ _
     · exact q2
     all_goals exact nL_ lq1 HSW1.out
   · refine qcA.setb (qcA.setb (qcA.setb (qcA.setb (qcA.setb (qcA.setb ?_ ?_ _) ?_ _) ?_ _) ?_ _) ?_ _) ?_ _
     · exact q3
     all_goals exact nL_ lq1 HSW2.out
   · refine qbd.setb (qbd.setb (qbd.setb (qbd.setb (qbd.setb (qbd.setb ?_ ?_ _) ?_ _) ?_ _) ?_ _) ?_ _) ?_ _
     · exact q4
     all_goals exact nL_ lq1 HSW3.out
 · show Below w.heap.size w _;rw[HQQ.out];have c1:q≤q+1:=Nat.le_succ q;refine Below.setCell (Below.setCell (Below.setCell (Below.setCell (Below.setCell (Below.setCell ?_ ?_ _) ?_ _) ?_ _) ?_ _) ?_ _) ?_ _
   · exact HB4'.out
   all_goals exact c1
def qqP(x:Wd):Nat:=x.feeds.length+qpu fsz x.feeds+x.links.length+(x.asked.length+qpu List.length x.asked)+(x.net.length+qpu psz x.net)
theorem qqh{x:Wd}(h:qqP x≤1048576):qrB x:=by
 unfold qqP at h;refine⟨a_,fun j hj=> ?_,a_,a_,fun j hj=> ?_,a_,fun j hj=> ?_⟩
 · have:=qqd fsz x.feeds hj;unfold fsz at*;omega
 · have:=qqd List.length x.asked hj;omega
 · have:=qqd psz x.net hj;unfold psz at*;omega
theorem qqM:∀ fs:List Fd,qpu fw fs=4*fs.length+qpu fsz fs
 |[]=>rfl
 |f::fs=>by
  have:=qqM fs;unfold qpu at*;simp only[List.map_cons,List.sum_cons,List.length_cons,this];unfold fw fsz;omega
theorem qqN:∀ ls:List (List (Int×Int)),qpu lw ls=2*qpu List.length ls
 |[]=>rfl
 |f::fs=>by
  have:=qqN fs;unfold qpu at*;simp only[List.map_cons,List.sum_cons,this];unfold lw;omega
theorem qqO:∀ ps:List Pc,qpu pw ps=5*ps.length+qpu psz ps
 |[]=>rfl
 |f::fs=>by
  have:=qqO fs;unfold qpu at*;simp only[List.map_cons,List.sum_cons,List.length_cons,this];unfold pw psz;omega
def qrj(x:Wd)(w:World)(e:Ending)(w':World):Prop:=∃ r:Int,e=.returned (.int .i64 r)∧r≤1048576∧(0≤r→qqP x≤1048576)∧bB w w'
theorem qre(x:Wd)(vF vL vK vN:Value)(w:World)(hx:WdR w x vF vL vK vN)(ht:qrA x):
 Calls Tryz.prog 35 #[.agg #[.int .i64 x.sec,.int .i64 x.bad,vF,vL,vK,vN],.int .i64 1048576] w (qrj x w):=by
 obtain⟨s,b,fs,ls,ks,ps⟩:=x;obtain⟨W0,HW0⟩:=nm_ (w.alloc (.cells #[.int .i64 s,.int .i64 b,vF,vL,vK,vN] 68));have HB0:Hid (bB w W0):=hI_ q_;have hp:W0.heap[w.heap.size]? =some (.cells #[.int .i64 s,.int .i64 b,vF,vL,vK,vN] 68 (0,0)):=by rw[←HW0.out];exact heap_alloc_new w _
 have lp:=(Array.getElem?_eq_some_iff.1 hp).1;have HP:=hI_ hp;have HX:=hI_ (hx.below HB0.out);have HT:=hI_ ht;obtain⟨p0,p1,p2,p3,p4,p5,pf⟩:=qaa hp;clear hx ht hp;simp only;go_enter Tryz.func35,Tryz.ntmps35
 go_wp2_with fail
 rw[HW0.out];refine(qrb fs _ 1048576 W0 HX.out.feeds HT.out.f a_ a_).mono ?_;rintro e w1 ⟨r1,rfl,hr1,hs1,hb1⟩;by_cases hn1:r1<0
 · go_wp2
   go_ret;exact⟨-1,rfl,a_,a_,HB0.out.trans (hb1.mono HB0.out.size)⟩
 have HS1:=hI_ (hs1 a_);clear hs1 p0 p1 p2 p3 p4 p5 pf;obtain⟨p0,p1,p2,p3,p4,p5,pf⟩:=qaa ((hb1.block _ lp).trans HP.out);have hg1:0≤r1:=a_;go_wp2_with fail
 refine(qrc ls _ r1 w1 (HX.out.below hb1).links hg1 hr1).mono ?_;rintro e w2 ⟨⟨r2,rfl,hr2,hs2⟩,rfl⟩;by_cases hn2:r2<0
 · go_wp2
   go_ret;exact⟨-1,rfl,a_,a_,HB0.out.trans (hb1.mono HB0.out.size)⟩
 have HS2:=hI_ (hs2 a_);have hg2:0≤r2:=a_;clear hs2;go_wp2_with fail
 refine(qq9 ks _ r2 w1 (HX.out.below hb1).asked hg2 hr2).mono ?_;rintro e w3 ⟨r3,rfl,hr3,hs3,hb3⟩;have hb13:=qa3 hb1 hb3;by_cases hn3:r3<0
 · go_wp2
   go_ret;exact⟨-1,rfl,a_,a_,HB0.out.trans (hb13.mono HB0.out.size)⟩
 have HS3:=hI_ (hs3 a_);have hg3:0≤r3:=a_;clear hs3 p0 p1 p2 p3 p4 p5 pf;obtain⟨p0,p1,p2,p3,p4,p5,pf⟩:=qaa ((hb13.block _ lp).trans HP.out);go_wp2_with fail
 refine(qqW ps _ r3 w3 (HX.out.below hb13).net HT.out.n hg3 hr3).mono ?_;rintro e w4 ⟨r4,rfl,hr4,hs4,hb4⟩;have hb14:=qa3 hb13 hb4;by_cases hn4:r4<0
 · go_wp2
   go_ret;exact⟨-1,rfl,a_,a_,HB0.out.trans (hb14.mono HB0.out.size)⟩
 have HS4:=hI_ (hs4 a_);clear hs4;go_wp2
 go_ret;exact⟨r4,rfl,hr4,fun _=>by unfold qqP;have:=HS1.out;have:=HS2.out;have:=HS3.out;have:=HS4.out;simp only;omega,HB0.out.trans (hb14.mono HB0.out.size)⟩
theorem Mid.widen{B C B' C':Nat}{a b:World}(h:Mid B C a b)(hB:B'≤B)(hC:C≤C'):Mid B' C' a b:=⟨h.os,h.tape,h.output,h.size,fun k hk hd=>h.block k hk a_⟩
def qrg(k:Nat)(x:Wd):Nat:=qpS (qpR (qpN k x.feeds x.feeds.length+2*x.links.length) x.asked x.asked.length) x.net x.net.length
theorem qqb(x:Wd)(vF vL vK vN:Value)(k B C:Nat)(w:World)(hx:WdO B C w x vF vL vK vN)(hC:C≤w.heap.size)(hs:qqP x≤1048576)(hk:k≤1000000):
 Calls Tryz.prog 40 #[.agg #[.int .i64 x.sec,.int .i64 x.bad,vF,vL,vK,vN],.int .i64 k] w fun e w'=>e=.returned (.int .i64 ((qrg k x:Nat):Int))∧Mid B C w w':=by
 obtain⟨W0,HW0⟩:=nm_ (w.alloc (.cells #[.int .i64 x.sec,.int .i64 x.bad,vF,vL,vK,vN] 28));have hb0:bB w W0:=by rw[←HW0.out];exact(bR_ _ _).alloc (nr_ _) _
 have hp:W0.heap[w.heap.size]? =some (.cells #[.int .i64 x.sec,.int .i64 x.bad,vF,vL,vK,vN] 28 (0,0)):=by rw[←HW0.out];exact heap_alloc_new w _
 have lp:=(Array.getElem?_eq_some_iff.1 hp).1;obtain⟨b1,b2,b3,h1,h2,h3,h4,q1,q2,q3,q4⟩:=hx.below hb0;obtain⟨K1,HK1⟩:=nm_ (qpN k x.feeds x.feeds.length);obtain⟨K2,HK2⟩:=nm_ (K1+2*x.links.length);obtain⟨K3,HK3⟩:=nm_ (qpR K2 x.asked x.asked.length);obtain⟨K4,HK4⟩:=nm_ (qpS K3 x.net x.net.length);have hZ:=qqh hs;have HZ:=hI_ hZ;unfold qqP at hs;have c1:K1≤10000000:=by rw[←HK1.out];unfold qpN;rw[qpy,qqM];omega
 have c2:K2≤20000000:=by have:=HK2.out;omega
 have c3:K3≤30000000:=by rw[←HK3.out];unfold qpR;rw[qpy,qqN];omega
 have c4:K4≤40000000:=by rw[←HK4.out];unfold qpS;rw[qpy,qqO];omega
 have HF:Hid (qrg k x=K4):=hI_ (by unfold qrg;rw[HK1.out,HK2.out,HK3.out,HK4.out]);rw[HF.out];have HP:=hI_ hp;have HQ:=hI_ (show _∧_∧_∧_ from⟨q1,q2,q3,q4⟩);obtain⟨p0,p1,p2,p3,p4,p5,pf⟩:=qaa hp;have hCB:B≤W0.heap.size:=Nat.le_trans (by omega:B≤w.heap.size) hb0.size;have hcb1:b1≤W0.heap.size:=Nat.le_trans (by omega:b1≤w.heap.size) hb0.size;have HSZ0:=hI_ hb0.size;have HB0:=hI_ hb0;clear hx hp q1 q2 q3 q4 hs hZ hb0;go_enter Tryz.func40,Tryz.ntmps40
 go_wp2_with fail
 rw[HW0.out];refine(qpL x.feeds _ k B b1 W0 HQ.out.1 hCB hcb1 (by rw[HK1.out];omega) HZ.out.f1).mono ?_;rintro e w1 ⟨rfl,-,hm1,-⟩;rw[HK1.out];have hp1:=(hm1.block w.heap.size lp (.inr a_)).trans HP.out;have lp1:=(Array.getElem?_eq_some_iff.1 hp1).1;have l1:=HQ.out.2.1.mid hm1 (nr_ _);have a1:=HQ.out.2.2.1.mid hm1 h2;have n1:=HQ.out.2.2.2.mid hm1 (Nat.le_trans h2 h3);have HM1:=hI_ hm1;have HH1:=hI_ (show _∧_∧_ from⟨l1,a1,n1⟩);have HP1:=hI_ hp1;clear p0 p1 p2 p3 p4 p5 pf hm1 l1 a1 n1 hp1;obtain⟨p0,p1,p2,p3,p4,p5,pf⟩:=qaa HP1.out;go_wp2_with fail
 refine(qpM x.links _ K1 b1 b2 w1 HH1.out.1 (by have:=HZ.out.l0;omega) a_).mono ?_;rintro e w2 ⟨rfl,-,hg2⟩;rw[HK2.out];have hm2:Mid b1 b2 w1 w2:=Mid.grown hg2 (fun k hk=>⟨(HH1.out.1.lt k hk).1,HH1.out.1.1 k hk⟩);have hp2:=(hm2.block w.heap.size lp1 (.inr a_)).trans HP1.out;have lp2:=(Array.getElem?_eq_some_iff.1 hp2).1;have a2:=HH1.out.2.1.mid hm2 (nr_ _);have n2:=HH1.out.2.2.mid hm2 h3;have HM2:=hI_ hm2;have HH2:=hI_ (show _∧_ from⟨a2,n2⟩);have HP2:=hI_ hp2;clear p0 p1 p2 p3 p4 p5 pf hm2 a2 n2 hp2 hg2;obtain⟨p0,p1,p2,p3,p4,p5,pf⟩:=qaa HP2.out;go_wp2_with fail
 refine(qpK x.asked _ K2 b2 b3 w2 HH2.out.1 (by rw[HK3.out];omega) HZ.out.k1).mono ?_;rintro e w3 ⟨rfl,-,hm3,-⟩;rw[HK3.out];have hp3:=(hm3.block w.heap.size lp2 (.inr a_)).trans HP2.out;have n3:=HH2.out.2.mid hm3 (nr_ _);have HM3:=hI_ hm3;have HH3:=hI_ n3;clear p0 p1 p2 p3 p4 p5 pf hm3 n3;obtain⟨p0,p1,p2,p3,p4,p5,pf⟩:=qaa hp3;clear hp3;go_wp2_with fail
 refine(qpI x.net _ K3 b3 C w3 HH3.out (by rw[HK4.out];omega) HZ.out.n1).mono ?_;rintro e w4 ⟨rfl,-,hm4,-⟩;rw[HK4.out];have HM4:=hI_ hm4;clear p0 p1 p2 p3 p4 p5 pf hm4;go_wp2
 go_ret;refine⟨rfl,?_⟩;have e1:Mid B C W0 w1:=HM1.out.widen (nr_ _) a_;have e2:Mid B C w1 w2:=HM2.out.widen a_ a_;have e3:Mid B C w2 w3:=HM3.out.widen a_ a_;have e4:Mid B C w3 w4:=HM4.out.widen a_ (nr_ _);exact(((((Mid.of_below HB0.out).trans e1).trans e2).trans e3).trans e4)
theorem qp8(fs:List Fd)(v:Value)(k:Nat)(w:World)(hv:qa6 w v (mFs k fs fs.length))(hk:qpN k fs fs.length≤100000000)(hz:∀ j (hj:j<fs.length),fs[j].bl.length≤1048576∧fs[j].hv.length≤1048576):
 gV 91 #[v,.int .i64 k] w (.int .i64 ((qpN k fs fs.length:Nat):Int)):=by
 have HV:=hI_ hv;have HZ:=hI_ hz;obtain⟨A,c,rfl⟩:=hv.sl;have hm:=hv.len;simp only[qpB] at hm HV ⊢;unfold maxLen at hm;clear hv hz;go_enter Tryz.func91,Tryz.ntmps91
 go_wp2
 go_loopw [1,5] (fun t i wr=>∃ j:Nat,j≤fs.length∧i=.int .i64 j∧t=.int .i64 ((qpN k fs j:Nat):Int)∧bB w wr) (fun _ i _=>fs.length-(intOf i).toNat)
 case atStart=>exact⟨0,Nat.zero_le _,rfl,by rw[qqr],bR_ _ _⟩
 case round=>
  obtain⟨j,hj,rfl,rfl,hb⟩:=hrel;have HG:=hI_ hb;by_cases hlt:j<fs.length
  · obtain⟨q,HQ⟩:=nm_ (qpN k fs j);have hqb:q≤100000000:=by rw[←HQ.out];exact Nat.le_trans (qqc (fs.length-j) j a_) hk
    obtain⟨b,o,x,y,rfl,hbs,d0,d1,d2,d3,d4,d5,hfd⟩:=(HV.out.below hb).at_ (j:=j) (by rw[qpB];exact hlt);rw[qpP,if_pos hlt,qam hlt,HQ.out] at d0 d1 d2 d3 hfd;have hzj:=HZ.out j hlt;obtain⟨f0,HF0⟩:=nm_ (fs[j]);rw[HF0.out] at d0 d1 d2 d3 hfd hzj;obtain⟨K,HK⟩:∃ K:Int,Hid (((q:Nat):Int)=K):=⟨_,hI_ rfl⟩
    have hK0:0≤K:=by rw[←HK.out];omega
    have hK1:K≤1000000000:=by rw[←HK.out];omega
    have e0:wr.cell? ⟨b,o+j*6,none⟩=some (.int .i64 K):=by rw[d0,←HK.out];rfl
    have e1:wr.cell? ⟨b,o+j*6+1,none⟩=some (.int .i64 (K+1)):=by rw[d1,←HK.out];rfl
    have e2:wr.cell? ⟨b,o+j*6+1+1,none⟩=some (.int .i64 (K+1+1)):=by rw[←HK.out];exact d2
    have e3:wr.cell? ⟨b,o+j*6+1+2,none⟩=some (.int .i64 (K+1+1+1)):=by rw[←HK.out];exact d3
    have hs:RS wr x ((List.range f0.bl.length).map fun i=>mtx (q+4+i)):=hfd.bl;have hh:RB wr y ((List.range f0.hv.length).map fun i=>((q+4+f0.bl.length+i)%3==0)):=hfd.hv;have HS:=hI_ hs;have HH:=hI_ hh;have HX5:=hI_ d5;have HBS:=hI_ hbs;rw[HQ.out,HK.out];clear d0 d1 d2 d3 hfd hs hh hbs;go_wp2_with fail
    rw[show K+1+1+1+1=((q+4:Nat):Int) by rw[←HK.out];omega];clear e0 e1 e2 e3 d4 d5;refine(qpT f0.bl.length x (q+4) wr HS.out a_ a_).mono ?_;rintro e w1 ⟨rfl,hb1⟩;obtain⟨K2,HK2⟩:∃ K:Int,Hid (((q+4+f0.bl.length:Nat):Int)=K):=⟨_,hI_ rfl⟩
    have hK2:¬ K2<0:=by rw[←HK2.out];omega
    rw[HK2.out];have e51:=(hb1.cell (p:=⟨b,o+j*6+5,none⟩) HBS.out).trans HX5.out;have HH1:=hI_ (HH.out.below hb1);have HB1:=hI_ hb1;clear hb1;go_wp2_with fail
    rw[←HK2.out];clear e51;refine(qp7 f0.hv.length y (q+4+f0.bl.length) w1 HH1.out a_ a_).mono ?_;rintro e w2 ⟨rfl,hb2⟩;obtain⟨K3,HK3⟩:∃ K:Int,Hid (((q+4+f0.bl.length+f0.hv.length:Nat):Int)=K):=⟨_,hI_ rfl⟩
    have hK3:¬ K3<0:=by rw[←HK3.out];omega
    rw[HK3.out];have HB2:=hI_ (qa3 HB1.out hb2);clear hb2;go_wp2
    go_roundw
    case rel=>
     refine⟨j+1,a_,t_,?_,HG.out.trans (HB2.out.mono HG.out.size)⟩;rw[qpO hlt,HQ.out,HF0.out,←HK3.out];unfold fw;congr 1;omega
    case measure=>simp[intOf];omega
  · obtain rfl:j=fs.length:=a_;go_wp2
    go_ret;exact⟨rfl,HG.out⟩
theorem qp9(n:Nat)(v:Value)(k:Nat)(w:World)(hv:RP w v ((List.range n).map (mP k)))(hl:n≤2000000)(hk:k≤1000000000):
 gS 92 #[v,.int .i64 k] w (.int .i64 ((k+2*n:Nat):Int)):=by
 obtain⟨A,c,rfl,h1,h2,h3⟩:=hv;simp only[List.length_map,List.length_range] at h1 h3 ⊢;have H3:=hI_ h3;clear h1 h2 h3;go_enter Tryz.func92,Tryz.ntmps92
 go_wp2
 go_loop [1,5] (fun t i=>∃ j:Nat,j≤n∧i=.int .i64 j∧t=.int .i64 ((k+2*j:Nat):Int)) (fun _ i=>n-(intOf i).toNat)
 case atStart=>exact⟨0,Nat.zero_le _,rfl,rfl⟩
 case round=>
  obtain⟨j,hj,rfl,rfl⟩:=hrel;obtain⟨K,HK⟩:∃ K:Int,Hid (((k+2*j:Nat):Int)=K):=⟨_,hI_ rfl⟩
  have hK0:0≤K:=by rw[←HK.out];omega
  have hK1:K≤2000000000:=by rw[←HK.out];omega
  rw[HK.out];by_cases hlt:j<n
  · obtain⟨b,o,rfl,hb,hc⟩:=H3.out a_;have e0:w.cell? ⟨b,o+j*2,none⟩=some (.int .i64 K):=by have:=(hc j hlt).1;rw[List.getElem_map,List.getElem_range] at this;rw[←HK.out];exact this
    have e1:w.cell? ⟨b,o+j*2+1,none⟩=some (.int .i64 (K+1)):=by have:=(hc j hlt).2;rw[List.getElem_map,List.getElem_range] at this;rw[←HK.out];exact this
    clear hc;go_wp2
    go_round
    case rel=>exact⟨j+1,a_,t_,by have:=HK.out;go_num⟩
    case measure=>simp[intOf];omega
  · obtain rfl:j=n:=a_;go_wp2
    go_ret;exact⟨qfp HK.out.symm,rfl⟩
theorem qqm(n:Nat)(v:Value)(k:Nat)(w:World)(hv:RP w v ((List.range n).map (mP k)))(hl:n≤2000000)(hk:k≤1000000000):
 gS 174 #[v,.int .i64 k] w (.int .i64 ((k+2*n:Nat):Int)):=by
 obtain⟨A,c,rfl,h1,h2,h3⟩:=hv;simp only[List.length_map,List.length_range] at h1 h3 ⊢;have H3:=hI_ h3;clear h1 h2 h3;go_enter Tryz.func174,Tryz.ntmps174
 go_wp2
 go_loop [1,5] (fun t i=>∃ j:Nat,j≤n∧i=.int .i64 j∧t=.int .i64 ((k+2*j:Nat):Int)) (fun _ i=>n-(intOf i).toNat)
 case atStart=>exact⟨0,Nat.zero_le _,rfl,rfl⟩
 case round=>
  obtain⟨j,hj,rfl,rfl⟩:=hrel;obtain⟨K,HK⟩:∃ K:Int,Hid (((k+2*j:Nat):Int)=K):=⟨_,hI_ rfl⟩
  have hK0:0≤K:=by rw[←HK.out];omega
  have hK1:K≤2000000000:=by rw[←HK.out];omega
  rw[HK.out];by_cases hlt:j<n
  · obtain⟨b,o,rfl,hb,hc⟩:=H3.out a_;have e0:w.cell? ⟨b,o+j*2,none⟩=some (.int .i64 K):=by have:=(hc j hlt).1;rw[List.getElem_map,List.getElem_range] at this;rw[←HK.out];exact this
    have e1:w.cell? ⟨b,o+j*2+1,none⟩=some (.int .i64 (K+1)):=by have:=(hc j hlt).2;rw[List.getElem_map,List.getElem_range] at this;rw[←HK.out];exact this
    clear hc;go_wp2
    go_round
    case rel=>exact⟨j+1,a_,t_,by have:=HK.out;go_num⟩
    case measure=>simp[intOf];omega
  · obtain rfl:j=n:=a_;go_wp2
    go_ret;exact⟨qfp HK.out.symm,rfl⟩
theorem qp6(ls:List (List (Int×Int)))(v:Value)(k:Nat)(w:World)(hv:qdh w v (mLs k ls ls.length))(hk:qpR k ls ls.length≤100000000)(hz:∀ j (hj:j<ls.length),ls[j].length≤1048576):
 gS 93 #[v,.int .i64 k] w (.int .i64 ((qpR k ls ls.length:Nat):Int)):=by
 have HV:=hI_ hv;have HZ:=hI_ hz;obtain⟨A,c,rfl⟩:=hv.sl;have hm:=hv.len;simp only[qpD] at hm HV ⊢;unfold maxLen at hm;clear hv hz;go_enter Tryz.func93,Tryz.ntmps93
 go_wp2
 go_loop [1,5] (fun t i=>∃ j:Nat,j≤ls.length∧i=.int .i64 j∧t=.int .i64 ((qpR k ls j:Nat):Int)) (fun _ i=>ls.length-(intOf i).toNat)
 case atStart=>exact⟨0,Nat.zero_le _,rfl,by rw[qqs]⟩
 case round=>
  obtain⟨j,hj,rfl,rfl⟩:=hrel;by_cases hlt:j<ls.length
  · obtain⟨q,HQ⟩:=nm_ (qpR k ls j);have hqb:q≤100000000:=by rw[←HQ.out];exact Nat.le_trans (qqB (ls.length-j) j a_) hk
    obtain⟨b,o,x,rfl,hbs,d0,hfd⟩:=HV.out.at_ (j:=j) (by rw[qpD];exact hlt);rw[qpU,if_pos hlt,qam hlt,HQ.out] at hfd;have hzj:=HZ.out j hlt;obtain⟨l0,HL0⟩:=nm_ (ls[j]);rw[HL0.out] at hfd hzj;have HS:=hI_ hfd;rw[HQ.out];clear hfd;go_wp2_with fail
    refine(qqm l0.length x q w HS.out a_ a_).mono ?_;rintro e w1 ⟨rfl,rfl⟩;obtain⟨K2,HK2⟩:∃ K:Int,Hid (((q+2*l0.length:Nat):Int)=K):=⟨_,hI_ rfl⟩
    have hK2:¬ K2<0:=by rw[←HK2.out];omega
    rw[HK2.out];go_wp2
    go_round
    case rel=>
     refine⟨j+1,a_,t_,?_⟩;rw[qpX hlt,HQ.out,HL0.out,←HK2.out];rfl
    case measure=>simp[intOf];omega
  · obtain rfl:j=ls.length:=a_;go_wp2
    go_ret;exact⟨rfl,rfl⟩
theorem qp0(ps:List Pc)(v:Value)(k:Nat)(w:World)(hv:qbx w v (mNs k ps ps.length))(hk:qpS k ps ps.length≤100000000)(hz:∀ j (hj:j<ps.length),ps[j].prf.length≤1048576):
 gV 94 #[v,.int .i64 k] w (.int .i64 ((qpS k ps ps.length:Nat):Int)):=by
 have HV:=hI_ hv;have HZ:=hI_ hz;obtain⟨A,c,rfl⟩:=hv.sl;have hm:=hv.len;simp only[qpA] at hm HV ⊢;unfold maxLen at hm;clear hv hz;go_enter Tryz.func94,Tryz.ntmps94
 go_wp2
 go_loopw [1,5] (fun t i wr=>∃ j:Nat,j≤ps.length∧i=.int .i64 j∧t=.int .i64 ((qpS k ps j:Nat):Int)∧bB w wr) (fun _ i _=>ps.length-(intOf i).toNat)
 case atStart=>exact⟨0,Nat.zero_le _,rfl,by rw[qqt],bR_ _ _⟩
 case round=>
  obtain⟨j,hj,rfl,rfl,hb⟩:=hrel;have HG:=hI_ hb;by_cases hlt:j<ps.length
  · obtain⟨q,HQ⟩:=nm_ (qpS k ps j);have hqb:q≤100000000:=by rw[←HQ.out];exact Nat.le_trans (qqC (ps.length-j) j a_) hk
    obtain⟨b,o,x,rfl,hbs,d0,d1,d2,d3,d4,d5,hfd⟩:=(HV.out.below hb).at_ (j:=j) (by rw[qpA];exact hlt);rw[qpQ,if_pos hlt,qam hlt,HQ.out] at d0 d1 d2 d3 d4 hfd;have hzj:=HZ.out j hlt;obtain⟨f0,HF0⟩:=nm_ (ps[j]);rw[HF0.out] at d0 d1 d2 d3 d4 hfd hzj;have hlt':(j:Int)<(ps.length:Int):=a_;have hj0:(0:Int)≤(j:Int):=a_;obtain⟨K,HK⟩:∃ K:Int,Hid (((q:Nat):Int)=K):=⟨_,hI_ rfl⟩
    have hK0:0≤K:=by rw[←HK.out];omega
    have hK1:K≤1000000000:=by rw[←HK.out];omega
    obtain⟨T,HTT⟩:=nm_ (mtx (q+4));have e0:wr.cell? ⟨b,o+j*6,none⟩=some (.int .i64 K):=by rw[d0,←HK.out];rfl
    have e1:wr.cell? ⟨b,o+j*6+1,none⟩=some (.int .i64 (K+1)):=by rw[d1,←HK.out];rfl
    have e2:wr.cell? ⟨b,o+j*6+2,none⟩=some (.int .i64 (K+1+1)):=by rw[←HK.out];exact d2
    have e3:wr.cell? ⟨b,o+j*6+3,none⟩=some (.int .i64 (K+1+1+1)):=by rw[←HK.out];exact d3
    have e4:wr.cell? ⟨b,o+j*6+4,none⟩=some (.string T):=by rw[←HTT.out];exact d4
    have hs:RI wr x ((List.range f0.prf.length).map fun i=>((q+5+i:Nat):Int)):=hfd;have HS:=hI_ hs;have HX5:=hI_ d5;have HBS:=hI_ hbs;rw[HQ.out,HK.out];clear d0 d1 d2 d3 d4 hfd hs d5;go_wp2_with fail
    rw[show K+1+1+1+1=((q+4:Nat):Int) by rw[←HK.out];omega];have hup:=qap wr;refine qoH ?_;repeat(go_big_quiet_step ((go_at_call 96;exact qal (qp2 HTT _ a_))))
    refine wq_ fun w1 hb1=>?_;clear hup e0 e1 e2 e3 e4;have e51:=(hb1.cell (p:=⟨b,o+j*6+5,none⟩) HBS.out).trans HX5.out;have HS1:=hI_ (HS.out.below hb1);have HB1:=hI_ hb1;obtain⟨K4,HK4⟩:∃ K:Int,Hid (((q+4:Nat):Int)=K):=⟨_,hI_ rfl⟩
    have hK40:0≤K4:=by rw[←HK4.out];omega
    have hK41:K4≤1000000000:=by rw[←HK4.out];omega
    rw[HK4.out];clear hb1;go_wp2_with fail
    rw[show K4+1=((q+5:Nat):Int) by rw[←HK4.out];omega];clear e51;refine(qqn f0.prf.length x (q+5) w1 HS1.out a_ a_).mono ?_;rintro e w2 ⟨rfl,hb2⟩;obtain⟨K3,HK3⟩:∃ K:Int,Hid (((q+5+f0.prf.length:Nat):Int)=K):=⟨_,hI_ rfl⟩
    have hK3:¬ K3<0:=by rw[←HK3.out];omega
    rw[HK3.out];have HB2:=hI_ (qa3 HB1.out hb2);clear hb2;go_wp2
    go_roundw
    case rel=>
     refine⟨j+1,a_,t_,?_,HG.out.trans (HB2.out.mono HG.out.size)⟩;rw[qpY hlt,HQ.out,HF0.out,←HK3.out];unfold pw;congr 1;omega
    case measure=>simp[intOf];omega
  · obtain rfl:j=ps.length:=a_;go_wp2
    go_ret;exact⟨rfl,HG.out⟩
def mW(k:Nat)(x:Wd):Wd:={x with feeds:=mFs k x.feeds x.feeds.length,links:=(List.range x.links.length).map (mP (qpN k x.feeds x.feeds.length)),asked:=mLs (qpN k x.feeds x.feeds.length+2*x.links.length) x.asked x.asked.length,net:=mNs (qpR (qpN k x.feeds x.feeds.length+2*x.links.length) x.asked x.asked.length) x.net x.net.length}
theorem qpJ(x:Wd)(s b:Int)(vF vL vK vN:Value)(k:Nat)(w:World)(hx:WdR w (mW k x) vF vL vK vN)(hs:qqP x≤1048576)(hk:k≤1000000):
 gV 41 #[.agg #[.int .i64 s,.int .i64 b,vF,vL,vK,vN],.int .i64 k] w (.int .i64 ((qrg k x:Nat):Int)):=by
 obtain⟨W0,HW0⟩:=nm_ (w.alloc (.cells #[.int .i64 s,.int .i64 b,vF,vL,vK,vN] 28));have hb0:bB w W0:=by rw[←HW0.out];exact(bR_ _ _).alloc (nr_ _) _
 have hp:W0.heap[w.heap.size]? =some (.cells #[.int .i64 s,.int .i64 b,vF,vL,vK,vN] 28 (0,0)):=by rw[←HW0.out];exact heap_alloc_new w _
 have lp:=(Array.getElem?_eq_some_iff.1 hp).1;have HX:=hI_ (hx.below hb0);obtain⟨K1,HK1⟩:=nm_ (qpN k x.feeds x.feeds.length);obtain⟨K2,HK2⟩:=nm_ (K1+2*x.links.length);obtain⟨K3,HK3⟩:=nm_ (qpR K2 x.asked x.asked.length);obtain⟨K4,HK4⟩:=nm_ (qpS K3 x.net x.net.length);have hZ:=qqh hs;have HZ:=hI_ hZ;unfold qqP at hs;have c1:K1≤10000000:=by rw[←HK1.out];unfold qpN;rw[qpy,qqM];omega
 have c2:K2≤20000000:=by have:=HK2.out;omega
 have c3:K3≤30000000:=by rw[←HK3.out];unfold qpR;rw[qpy,qqN];omega
 have c4:K4≤40000000:=by rw[←HK4.out];unfold qpS;rw[qpy,qqO];omega
 have HF:Hid (qrg k x=K4):=hI_ (by unfold qrg;rw[HK1.out,HK2.out,HK3.out,HK4.out]);rw[HF.out];have hL:RP W0 vL ((List.range x.links.length).map (mP K1)):=by have:=HX.out.links;unfold mW at this;rw[HK1.out] at this;exact this
 have hA:qdh W0 vK (mLs K2 x.asked x.asked.length):=by have:=HX.out.asked;unfold mW at this;rw[HK1.out,HK2.out] at this;exact this
 have hN:qbx W0 vN (mNs K3 x.net x.net.length):=by have:=HX.out.net;unfold mW at this;rw[HK1.out,HK2.out,HK3.out] at this;exact this
 have HL:=hI_ hL;have HA:=hI_ hA;have HN:=hI_ hN;have HP:=hI_ hp;have g1:¬ ((K1:Nat):Int)<0:=a_;have g2:¬ ((K2:Nat):Int)<0:=a_;have g3:¬ ((K3:Nat):Int)<0:=a_;have g4:¬ ((K4:Nat):Int)<0:=a_;obtain⟨p0,p1,p2,p3,p4,p5,pf⟩:=qaa hp;have HB0:=hI_ hb0;clear hx hp hs hZ hb0 hL hA hN;go_enter Tryz.func41,Tryz.ntmps41
 go_wp2_with fail
 rw[HW0.out];go_wp2_with fail
 refine(qp8 x.feeds vF k W0 HX.out.feeds (by rw[HK1.out];omega) HZ.out.f1).mono ?_;rintro e w1 ⟨rfl,hb1⟩;rw[HK1.out];have hp1:=(hb1.block w.heap.size lp).trans HP.out;have HL1:=hI_ (HL.out.below hb1);have HA1:=hI_ (HA.out.below hb1);have HN1:=hI_ (HN.out.below hb1);have HB1:=hI_ hb1;clear p0 p1 p2 p3 p4 p5 pf hb1;obtain⟨p0,p1,p2,p3,p4,p5,pf⟩:=qaa hp1;clear hp1;go_wp2_with fail
 refine(qp9 x.links.length vL K1 w1 HL1.out (by have:=HZ.out.l0;omega) a_).mono ?_;rintro e w2 ⟨rfl,rfl⟩;rw[HK2.out];go_wp2_with fail
 refine(qp6 x.asked vK K2 w1 HA1.out (by rw[HK3.out];omega) HZ.out.k1).mono ?_;rintro e w3 ⟨rfl,rfl⟩;rw[HK3.out];go_wp2_with fail
 refine(qp0 x.net vN K3 w1 HN1.out (by rw[HK4.out];omega) HZ.out.n1).mono ?_;rintro e w4 ⟨rfl,hb4⟩;rw[HK4.out];have HB4:=hI_ (qa3 HB1.out hb4);clear p0 p1 p2 p3 p4 p5 pf hb4;go_wp2
 go_ret;exact⟨rfl,HB0.out.trans (HB4.out.mono HB0.out.size)⟩
theorem qpE{α:Type}(f:α→Nat)(K:Nat):∀ l:List α,(∀ j (hj:j<l.length),f l[j]≤K)→qpu f l≤l.length*K
 |[],_=>by simp[qpu]
 |a::l,h=>by
  have h0:f a≤K:=h 0 k_;have:=qpE f K l (fun j hj=>h (j+1) ae_);unfold qpu at*;simp only[List.map_cons,List.sum_cons,List.length_cons];rw[Nat.succ_mul];omega
theorem qrx{x:Wd}(h:WV x):qqP x≤2000:=by
 have hi:=h.wi;have a1:=qpE fsz 32 x.feeds (fun j hj=>by have:=qax (hi.fv j hj).1;unfold fsz;omega);have a2:=qpE List.length 40 x.asked hi.ask;have a3:=qpE psz 100 x.net (fun j hj=>by have:=(hi.pcs j hj).2.2.2;unfold psz;omega);have b1:=hi.n6;have b2:=hi.na;have b3:=hi.nl;have b4:=hi.net;unfold qqP;omega
section
variable {T:List TypeId} {B C B1 B2:Nat} {w w':World} {v vF vL vA vN:Value} {x:Wd}
theorem qa7.mid{fs:List Fd}(h:qa7 B C w v fs)(hb:Mid B1 B2 w w')(hB:B2≤B):qa7 B C w' v fs:=by
 obtain⟨h0,F,h1,h2,h3⟩:=h;exact⟨h0,F,h1.mid hb hB,fun j hj=>⟨(h2 j hj).1,(h2 j hj).2.1,(h2 j hj).2.2.1,(h2 j hj).2.2.2.1,⟨(h2 j hj).2.2.2.2.1.bl.mid hb hB,(h2 j hj).2.2.2.2.1.hv.mid hb hB⟩,(h2 j hj).2.2.2.2.2⟩,h3⟩
theorem WdP.mid(h:WdP B C w x vF vL vA vN)(hb:Mid B1 B2 w w')(hB:B2≤B):WdP B C w' x vF vL vA vN:=⟨h.F.mid hb hB,h.L.mid hb hB,h.A.mid hb hB,h.N.mid hb hB⟩
theorem WdO.p(h:WdO B C w x vF vL vA vN):WdP B C w x vF vL vA vN:=by
 obtain⟨b1,b2,b3,h1,h2,h3,h4,p1,p2,p3,p4⟩:=h;exact⟨p1.mono (nr_ _) a_,p2.mono a_ a_,p3.mono a_ a_,p4.mono a_ (nr_ _)⟩
end
theorem qp1(x:Wd)(vF vL vK vN:Value)(k B C:Nat)(w:World)(hx:WdP B C w x vF vL vK vN)(hB:B≤w.heap.size)(hC:C≤w.heap.size)(hs:qqP x≤1048576)(hk:k≤1000000):
 Calls Tryz.prog 40 #[.agg #[.int .i64 x.sec,.int .i64 x.bad,vF,vL,vK,vN],.int .i64 k] w fun e w'=>e=.returned (.int .i64 ((qrg k x:Nat):Int))∧WdP B C w' (mW k x) vF vL vK vN∧Mid B C w w':=by
 obtain⟨W0,HW0⟩:=nm_ (w.alloc (.cells #[.int .i64 x.sec,.int .i64 x.bad,vF,vL,vK,vN] 28));have hb0:bB w W0:=by rw[←HW0.out];exact(bR_ _ _).alloc (nr_ _) _
 have hp:W0.heap[w.heap.size]? =some (.cells #[.int .i64 x.sec,.int .i64 x.bad,vF,vL,vK,vN] 28 (0,0)):=by rw[←HW0.out];exact heap_alloc_new w _
 have lp:=(Array.getElem?_eq_some_iff.1 hp).1;have HQ:=hI_ (hx.below hb0);obtain⟨K1,HK1⟩:=nm_ (qpN k x.feeds x.feeds.length);obtain⟨K2,HK2⟩:=nm_ (K1+2*x.links.length);obtain⟨K3,HK3⟩:=nm_ (qpR K2 x.asked x.asked.length);obtain⟨K4,HK4⟩:=nm_ (qpS K3 x.net x.net.length);have hZ:=qqh hs;have HZ:=hI_ hZ;unfold qqP at hs;have c1:K1≤10000000:=by rw[←HK1.out];unfold qpN;rw[qpy,qqM];omega
 have c2:K2≤20000000:=by have:=HK2.out;omega
 have c3:K3≤30000000:=by rw[←HK3.out];unfold qpR;rw[qpy,qqN];omega
 have c4:K4≤40000000:=by rw[←HK4.out];unfold qpS;rw[qpy,qqO];omega
 have HF:Hid (qrg k x=K4):=hI_ (by unfold qrg;rw[HK1.out,HK2.out,HK3.out,HK4.out]);have HM:Hid (mW k x={x with feeds:=mFs k x.feeds x.feeds.length,links:=(List.range x.links.length).map (mP K1),asked:=mLs K2 x.asked x.asked.length,net:=mNs K3 x.net x.net.length}):=hI_ (by unfold mW;rw[HK1.out,HK2.out,HK3.out]);rw[HF.out];have HP:=hI_ hp;obtain⟨p0,p1,p2,p3,p4,p5,pf⟩:=qaa hp;have hCB:B≤W0.heap.size:=Nat.le_trans hB hb0.size;have hcb1:C≤W0.heap.size:=Nat.le_trans hC hb0.size;have HB0:=hI_ hb0;clear hx hp hs hZ hb0;go_enter Tryz.func40,Tryz.ntmps40
 go_wp2_with fail
 rw[HW0.out];refine(qpL x.feeds _ k B C W0 HQ.out.F hCB hcb1 (by rw[HK1.out];omega) HZ.out.f1).mono ?_;rintro e w1 ⟨rfl,f1,hm1⟩;rw[HK1.out];have hp1:=(hm1.1.block w.heap.size lp (.inr a_)).trans HP.out;have lp1:=(Array.getElem?_eq_some_iff.1 hp1).1;have HM1:=hI_ hm1.1;have HF1:=hI_ f1;have HL1:=hI_ (HQ.out.L.keepT hm1.2 e_);have HA1:=hI_ (HQ.out.A.nextT hm1.2 e_ e_);have HN1:=hI_ (HQ.out.N.nextT hm1.2 e_ e_);have HP1:=hI_ hp1;clear p0 p1 p2 p3 p4 p5 pf hm1 hp1 f1;obtain⟨p0,p1,p2,p3,p4,p5,pf⟩:=qaa HP1.out;go_wp2_with fail
 refine(qpM x.links _ K1 B C w1 HL1.out (by have:=HZ.out.l0;omega) a_).mono ?_;rintro e w2 ⟨rfl,l2,hg2⟩;rw[HK2.out];have hm2:MK NL B C w1 w2:=MK.grown hg2 (fun k hk=>⟨(HL1.out.lt k hk).1,HL1.out.1 k hk⟩) (HL1.out.off e_);have hp2:=(hm2.1.block w.heap.size lp1 (.inr a_)).trans HP1.out;have lp2:=(Array.getElem?_eq_some_iff.1 hp2).1;have HM2:=hI_ hm2.1;have HF2:=hI_ (HF1.out.nextT hm2.2 e_ e_ e_);have HL2:=hI_ l2;have HA2:=hI_ (HA1.out.nextT hm2.2 e_ e_);have HN2:=hI_ (HN1.out.nextT hm2.2 e_ e_);have HP2:=hI_ hp2;clear p0 p1 p2 p3 p4 p5 pf hm2 hp2 hg2 l2;obtain⟨p0,p1,p2,p3,p4,p5,pf⟩:=qaa HP2.out;go_wp2_with fail
 refine(qpK x.asked _ K2 B C w2 HA2.out (by rw[HK3.out];omega) HZ.out.k1).mono ?_;rintro e w3 ⟨rfl,a3,hm3⟩;rw[HK3.out];have hp3:=(hm3.1.block w.heap.size lp2 (.inr a_)).trans HP2.out;have HM3:=hI_ hm3.1;have HF3:=hI_ (HF2.out.nextT hm3.2 e_ e_ e_);have HL3:=hI_ (HL2.out.keepT hm3.2 e_);have HA3:=hI_ a3;have HN3:=hI_ (HN2.out.nextT hm3.2 e_ e_);clear p0 p1 p2 p3 p4 p5 pf hm3 a3;obtain⟨p0,p1,p2,p3,p4,p5,pf⟩:=qaa hp3;clear hp3;go_wp2_with fail
 refine(qpI x.net _ K3 B C w3 HN3.out (by rw[HK4.out];omega) HZ.out.n1).mono ?_;rintro e w4 ⟨rfl,n4,hm4⟩;rw[HK4.out];have HM4:=hI_ hm4.1;have HF4:=hI_ (HF3.out.nextT hm4.2 e_ e_ e_);have HL4:=hI_ (HL3.out.keepT hm4.2 e_);have HA4:=hI_ (HA3.out.nextT hm4.2 e_ e_);have HN4:=hI_ n4;clear p0 p1 p2 p3 p4 p5 pf hm4 n4;go_wp2
 go_ret;rw[HM.out];exact⟨rfl,⟨HF4.out,HL4.out,HA4.out,HN4.out⟩,(((((Mid.of_below HB0.out).trans HM1.out).trans HM2.out).trans HM3.out).trans HM4.out)⟩
theorem qvw(k a b c:Int)(t:ByteArray)(w:World):gV 38 #[.agg #[.int .i64 k,.int .i64 a,.int .i64 b,.int .i64 c,.string t]] w (.agg #[.int .i64 k,.int .i64 a,.int .i64 b,.int .i64 c,.string t]):=by
 go_enter Tryz.func38,Tryz.ntmps38
 go_wp2
 exact bodyPost_ret (v:=.agg #[.int .i64 k,.int .i64 a,.int .i64 b,.int .i64 c,.string t]) (by simp[results,Tryz.results38,go_sem]) rfl ⟨rfl,bH_⟩
theorem qvI(k a b c:Int)(t:ByteArray)(r:Int)(w:World)(ht:t.size≤maxLen)(h0:0≤r)(h1:r≤1048576):Calls Tryz.prog 36 #[.agg #[.int .i64 k,.int .i64 a,.int .i64 b,.int .i64 c,.string t],.int .i64 r] w fun e w'=>(∃ q:Int,e=.returned (.int .i64 q)∧q≤r∧(0≤q→(t.size:Int)+q=r))∧bB w w':=by
 unfold maxLen at ht;have hm:t.size≤9223372036854775807:=a_;have hb:bB w (w.alloc (.cells #[.int .i64 k,.int .i64 a,.int .i64 b,.int .i64 c,.string t] 69)):=(bR_ _ _).alloc (nr_ _) _;by_cases hn:r-(t.size:Int)<0
 · go_enter Tryz.func36,Tryz.ntmps36
   go_wp2
   go_ret;exact⟨⟨-1,rfl,a_,fun h=>a_⟩,hb⟩
 · go_enter Tryz.func36,Tryz.ntmps36
   go_wp2
   go_ret;exact⟨⟨r-(t.size:Int),rfl,a_,fun h=>a_⟩,hb⟩
end Go.Proofs.YtekaaekpdebloaaGreatDoor

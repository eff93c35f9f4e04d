/- Words and walks of the law. -/
import Derived.Below
import Derived.Test.YtekaaekpdebloaaGreatDoorRows
import Derived.WalkKit
import Derived.Deep.QuietTactic
import Derived.BigQuiet
import Derived.Lib.Hide
import Derived.Maps.AppendAt
import Derived.Deep.AppendLies
import Derived.Laws.AppendOwnNone
import Derived.Deep.RegionHeld3
set_option linter.unusedVariables false
set_option linter.unusedSimpArgs false
set_option maxHeartbeats 12800000
set_option maxRecDepth 100000
namespace Go.Proofs.YtekaaekpdebloaaGreatDoor

def inB(n a b:Int):Bool:=decide (a≤n∧n≤b)
def dig(n:Int):Bool:=inB n 0 990
def key(n:Int):Bool:=inB n 1 996
def qbo(a b:Int):Int:=(31*a+17*b+5)%991
def qbi(s:List UInt8):Int:=s.foldl (fun n c=>(257*n+(c.toNat:Int)+1)%991) 11

theorem qak{n a b:Int}:inB n a b=true↔a≤n∧n≤b:=by simp[inB]
theorem qfT{n a b:Int}:inB n a b=false↔n<a∨b<n:=by simp[inB];omega
theorem qa4{n:Int}:dig n=true↔0≤n∧n≤990:=by simp[dig,inB]
theorem qcd{n:Int}:key n=true↔1≤n∧n≤996:=by simp[key,inB]
theorem qdW(a b:Int):0≤qbo a b∧qbo a b≤990:=by unfold qbo;omega
theorem qb4(a b:Int):dig (qbo a b)=true:=qa4.2 (qdW a b)
theorem qfc(s:List UInt8)(c:UInt8):qbi (s++[c])=(257*qbi s+(c.toNat:Int)+1)%991:=by simp[qbi]
theorem qhH(s:List UInt8):0≤qbi s∧qbi s≤990:=by
 rcases List.eq_nil_or_concat s with rfl|⟨l,c,rfl⟩
 · simp[qbi]
 · rw[List.concat_eq_append,qfc];omega
theorem qgh(s:List UInt8):dig (qbi s)=true:=qa4.2 (qhH s)
theorem qiN{s:ByteArray}{k:Nat}(h:k<s.size):s.data.toList.take (k+1)=s.data.toList.take k++[s[k]]:=by
 rw[List.take_succ_eq_append_getElem (by simpa using h)];rfl

def szF(p n:Nat):Nat→Nat→Nat
 |0,s=>s
 |f+1,s=>if 2*s≤n-p∧p%(2*s)=0 then szF p n f (2*s) else s
def sz(p n:Nat):Nat:=szF p n 5 1
def qdG:Nat→Nat→Nat→List (Nat×Nat)
 |0,_,_=>[]
 |f+1,p,n=>if p<n then (p,sz p n)::qdG f (p+sz p n) n else []
def qaz(p n:Nat):List (Nat×Nat):=qdG 17 p n
theorem qnm(p n:Nat)(h:p<n):∀ f s,1≤s→s≤n-p→szF p n f s≤n-p∧1≤szF p n f s
 |0,s,h1,h2=>⟨h2,h1⟩
 |f+1,s,h1,h2=>by
  unfold szF;split
  · rename_i hc;exact qnm p n h f (2*s) (by omega) hc.1
  · exact⟨h2,h1⟩
theorem qhG{p n s:Nat}(h:¬ (2*s≤n-p∧p%(2*s)=0)):∀ f,szF p n f s=s
 |0=>rfl
 |f+1=>by unfold szF;rw[if_neg h]
theorem qod{p n s f:Nat}(h:2*s≤n-p∧p%(2*s)=0):szF p n (f+1) s=szF p n f (2*s):=by
 conv=>lhs;unfold szF
 rw[if_pos h]
theorem qgf{p n:Nat}(h:p<n):1≤sz p n∧sz p n≤n-p:=by
 have:=qnm p n h 5 1 (by omega) (by omega);unfold sz;omega
theorem qgk:∀ f g p n,n-p≤f→n-p≤g→qdG f p n=qdG g p n
 |0,0,_,_,_,_=>rfl
 |0,g+1,p,n,h,_=>by unfold qdG;rw[if_neg (by omega)]
 |f+1,0,p,n,_,h=>by unfold qdG;rw[if_neg (by omega)]
 |f+1,g+1,p,n,h1,h2=>by
  unfold qdG;by_cases hp:p<n
  · rw[if_pos hp,if_pos hp,qgk f g _ _ (by have:=qgf hp;omega) (by have:=qgf hp;omega)]
  · rw[if_neg hp,if_neg hp]
theorem qcH{p n:Nat}(h:p<n)(hn:n≤16):qaz p n=(p,sz p n)::qaz (p+sz p n) n:=by
 unfold qaz
 conv=>lhs;unfold qdG
 rw[if_pos h,qgk 16 17 _ _ (by have:=qgf h;omega) (by have:=qgf h;omega)]
theorem qd0{p n:Nat}(h:n≤p):qaz p n=[]:=by
 unfold qaz qdG;rw[if_neg (by omega)]
theorem qg3:∀ f p n,(qdG f p n).length≤f
 |0,_,_=>by simp[qdG]
 |f+1,p,n=>by
  unfold qdG;split
  · have:=qg3 f (p+sz p n) n;simp;omega
  · simp
theorem qaY(p n:Nat):(qaz p n).length≤17:=qg3 17 p n
theorem qmb{p0 p n:Nat}{out:List (Nat×Nat)}(h:out++qaz p n=qaz p0 n):out.length≤17:=by
 have h1:=congrArg List.length h;have h2:=qaY p0 n;simp at h1;omega
def qbU(l:List Int):Nat→Nat→Int
 |0,s=>l.getD s 0
 |k+1,s=>qbo (qbU l k s) (qbU l k (s+2 ^ k))
def qb7(l:List Int):Bool:=l.all dig
theorem qdc{l:List Int}(h:qb7 l=true){j:Nat}(hj:j<l.length):dig l[j]=true:=by
 unfold qb7 at h;rw[List.all_eq_true] at h;exact h _ (List.getElem_mem hj)
theorem qdr{l:List Int}(h:qb7 l=true):∀ k s,s+2 ^ k≤l.length→dig (qbU l k s)=true
 |0,s,hs=>by unfold qbU;rw[List.getD_eq_getElem?_getD,List.getElem?_eq_getElem (by omega)];exact qdc h _
 |k+1,s,_=>qb4 _ _
theorem qjg{l:List Int}{j:Nat}(hj:j<l.length)(h:dig l[j]=false):qb7 l=false:=by
 unfold qb7;rw[List.all_eq_false];exact⟨_,List.getElem_mem hj,by simp[h]⟩
theorem qfM{l:List Int}{k:Nat}(hk:k<l.length)(h:qb7 (l.take k)=true)(hd:dig l[k]=true):qb7 (l.take (k+1))=true:=by
 unfold qb7 at *;rw[List.take_succ_eq_append_getElem hk,List.all_append,h];simp[hd]
theorem qhi{l:List Int}{k:Nat}(hk:l.length≤k)(h:qb7 (l.take k)=true):qb7 l=true:=by rwa[List.take_of_length_le hk] at h
def qaE(l:List Int):Bool:=decide (l.length≤16)&&qb7 l
theorem qaJ{l:List Int}:qaE l=true↔l.length≤16∧qb7 l=true:=by simp[qaE]
def qdI(n:Int)(peaks:List Int):Int:=peaks.foldl qbo n
theorem qfN(n:Int)(l:List Int)(x:Int):qdI n (l++[x])=qbo (qdI n l) x:=by simp[qdI]
theorem qhm{n:Int}(hn:dig n=true)(l:List Int):dig (qdI n l)=true:=by
 rcases List.eq_nil_or_concat l with rfl|⟨l,c,rfl⟩
 · exact hn
 · rw[List.concat_eq_append,qfN];exact qb4 _ _
theorem qbz{α:Type}{l:List α}{k:Nat}(h:k<l.length):l.take (k+1)=l.take k++[l[k]]:=List.take_succ_eq_append_getElem h
def qdK(l:List Int)(t:Nat×Nat):Int:=qbU l t.2.log2 t.1
theorem qcW:∀ n,n<17→∀ p,p<17→∀ t ∈ qaz p n,t.1+t.2≤n∧2 ^ t.2.log2=t.2∧t.2.log2≤4:=by decide +kernel
def qdX(l:List Int):List Int:=(qaz 0 l.length).map (qdK l)
def qbN(l:List Int):Int:=if qaE l then qdI l.length (qdX l) else -1
theorem qiM{l:List Int}(h:qb7 l=true)(hl:l.length≤16){p:Nat}(hp:p≤16){t:Nat×Nat}(ht:t ∈ qaz p l.length):dig (qdK l t)=true:=by
 obtain⟨h1,h2,_⟩:=qcW l.length (by omega) p (by omega) t ht;exact qdr h _ _ (by rw[h2];exact h1)
theorem qiH{l:List Int}(h:qb7 l=true)(hl:l.length≤16):qb7 (qdX l)=true:=by
 unfold qb7 qdX;rw[List.all_map,List.all_eq_true];intro t ht;exact qiM h hl (Nat.zero_le _) ht
theorem qcG{l:List Int}{m:Nat}:∀ k s,s+2 ^ k≤m→qbU (l.take m) k s=qbU l k s
 |0,s,h=>by unfold qbU;rw[List.getD_eq_getElem?_getD,List.getD_eq_getElem?_getD,List.getElem?_take,if_pos (by omega)]
 |k+1,s,h=>by
  have:(2:Nat) ^ (k+1)=2 ^ k+2 ^ k:=by rw[Nat.pow_succ];omega
  have h1:1≤2 ^ k:=Nat.one_le_two_pow;unfold qbU;rw[qcG k s (by omega),qcG k _ (by omega)]
theorem qcZ{l:List Int}{m:Nat}:∀ k s,qbU (l.drop m) k s=qbU l k (m+s)
 |0,s=>by unfold qbU;rw[List.getD_eq_getElem?_getD,List.getD_eq_getElem?_getD,List.getElem?_drop]
 |k+1,s=>by unfold qbU;rw[qcZ k s,qcZ k _,Nat.add_assoc]
theorem qcb{l:List Int}(h:qb7 l=true)(m:Nat):qb7 (l.take m)=true:=by
 unfold qb7 at *;rw[List.all_eq_true] at *;exact fun x hx=>h x (List.mem_of_mem_take hx)
theorem qc0{l:List Int}(h:qb7 l=true)(m:Nat):qb7 (l.drop m)=true:=by
 unfold qb7 at *;rw[List.all_eq_true] at *;exact fun x hx=>h x (List.mem_of_mem_drop hx)
def qbM(n i:Nat):Nat:=(qaz 0 n).findIdx (fun t=>decide (i<t.1+t.2))
def pkT(n i:Nat):Nat×Nat:=(qaz 0 n).getD (qbM n i) (0,0)
def lev(n i:Nat):Nat:=(pkT n i).2.log2
theorem qhA:∀ n,n<17→∀ i,i<n→qbM n i<(qaz 0 n).length∧(pkT n i).2=2 ^ lev n i∧lev n i≤4∧(pkT n i).1≤i∧i<(pkT n i).1+(pkT n i).2∧(pkT n i).1+(pkT n i).2≤n∧
 (qaz 0 n).eraseIdx (qbM n i)=(qaz 0 n).filter (fun t=>t.1 !=(pkT n i).1)∧(pkT n i).2=sz (pkT n i).1 n∧(pkT n i).1=(pkT n i).1/(pkT n i).2*(pkT n i).2:=by decide +kernel
def sib(i j:Nat):Nat:=if i/2 ^ j%2=0 then i/2 ^ j*2 ^ j+2 ^ j else i/2 ^ j*2 ^ j-2 ^ j
theorem qnQ:∀ i,i<16→∀ j,j<4→(i/2 ^ j*2 ^ j) ^^^ 2 ^ j=sib i j:=by decide +kernel
theorem qnu:∀ i,i<16→∀ j,j<4→(i &&& 2 ^ j=0↔i/2 ^ j%2=0):=by decide +kernel
theorem ql7:∀ n,n<17→∀ i,i<n→∀ j,j<lev n i→sib i j+2 ^ j≤n:=by decide +kernel
def qgd(l:List Int)(i k:Nat):List Int:=(List.range k).map fun j=>qbU l j (sib i j)
theorem qge(l:List Int)(i k:Nat):qgd l i (k+1)=qgd l i k++[qbU l k (sib i k)]:=by simp[qgd,List.range_succ]
def others(l:List Int)(i:Nat):List Int:=((qaz 0 l.length).eraseIdx (qbM l.length i)).map (qdK l)
def qcg(l:List Int)(i:Nat):List Int:=qgd l i (lev l.length i)++others l i
def qaQ(l:List Int)(i:Int):List Int:=if qaE l&&inB i 0 (l.length-1) then qcg l i.toNat else []
def qb0(i:Nat):Nat→Int→List Int→Int
 |_,r,[]=>r
 |j,r,x::xs=>qb0 i (j+1) (if i/2 ^ j%2=0 then qbo r x else qbo x r) xs
theorem qec(i:Nat):∀ (xs:List Int) (j:Nat) (r x:Int),qb0 i j r (xs++[x])=if i/2 ^ (j+xs.length)%2=0 then qbo (qb0 i j r xs) x else qbo x (qb0 i j r xs)
 |[],j,r,x=>by simp[qb0]
 |y::xs,j,r,x=>by
  simp only[List.cons_append,qb0];rw[qec i xs (j+1)];simp only[List.length_cons];rw[show j+1+xs.length=j+(xs.length+1) by omega]
theorem qc7(i:Nat):∀ (xs:List Int) (j:Nat) (r:Int),dig r=true→dig (qb0 i j r xs)=true
 |[],_,_,h=>h
 |x::xs,j,r,_=>by
  unfold qb0;refine qc7 i xs (j+1) _ ?_;split <;> exact qb4 _ _
def qbl(digest:Int)(n i:Nat)(leaf:Int)(proof:List Int):Bool:=
 decide (proof.length=lev n i+((qaz 0 n).length-1))&&
 (qdI n ((proof.drop (lev n i)).take (qbM n i)++[qb0 i 0 leaf (proof.take (lev n i))]++(proof.drop (lev n i)).drop (qbM n i))==digest)
def qaT(digest n i leaf:Int)(proof:List Int):Bool:=
 inB n 1 16&&inB i 0 (n-1)&&dig leaf&&qb7 proof&&qbl digest n.toNat i.toNat leaf proof
theorem qkx{α:Type}(l:List α)(k j:Nat)(hj:j<l.length):(l.take (j+1)).eraseIdx k=(l.take j).eraseIdx k++if j=k then [] else [l[j]]:=by
 rw[qbz hj];have hl:(l.take j).length=j:=by simp;omega
 by_cases h:k<j
 · rw[List.eraseIdx_append_of_lt_length (by omega),if_neg (by omega)]
 · rw[List.eraseIdx_append_of_length_le (by omega),List.eraseIdx_of_length_le (l:=l.take j) (by omega),hl];by_cases h2:j=k
   · subst h2;simp
   · rw[if_neg h2,List.eraseIdx_of_length_le (by simp;omega)]
def pkF:Nat→Nat→Nat→Nat→Nat
 |0,_,_,p=>p
 |f+1,n,i,p=>if p+sz p n≤i then pkF f n i (p+sz p n) else p
theorem qoa:∀ n,n<17→∀ i,i<n→pkF 17 n i 0=(pkT n i).1:=by decide +kernel
theorem qmT{n i p:Nat}(h:¬ p+sz p n≤i):∀ f,pkF f n i p=p
 |0=>rfl
 |f+1=>by unfold pkF;rw[if_neg h]
theorem qn9{f n i p:Nat}(h:p+sz p n≤i):pkF (f+1) n i p=pkF f n i (p+sz p n):=by
 conv=>lhs;unfold pkF
 rw[if_pos h]
def qbP(n i p:Nat):List (Nat×Nat):=(qaz p n).filter (fun t=>t.1 !=(pkT n i).1)
theorem qf8{n i p:Nat}(h:p<n)(hn:n≤16):qbP n i p=(if p=(pkT n i).1 then [] else [(p,sz p n)])++qbP n i (p+sz p n):=by
 unfold qbP;rw[qcH h hn,List.filter_cons];by_cases hp:p=(pkT n i).1
 · simp[hp]
 · simp[hp]
theorem qgw{n i p:Nat}(h:n≤p):qbP n i p=[]:=by unfold qbP;rw[qd0 h];rfl
theorem qgY(n i p:Nat):(qbP n i p).length≤17:=Nat.le_trans (List.length_filter_le _ _) (qaY p n)
theorem qmF:∀ i,i<16→∀ j,j<4→i/2 ^ j*2 ^ j/2 ^ j=i/2 ^ j:=by decide +kernel
def qkU(dg root:Int):List Bool→Int→List Int→Bool
 |[],out,rest=>rest.isEmpty&&(out==dg)
 |true::bs,out,rest=>qkU dg root bs (qbo out root) rest
 |false::bs,out,x::xs=>qkU dg root bs (qbo out x) xs
 |false::_,_,[]=>false
def qe2(n i p:Nat):List Bool:=(qaz p n).map fun t=>t.1==(pkT n i).1
theorem qmG:∀ n,n<17→∀ i,i<n→qe2 n i 0=List.replicate (qbM n i) false++true::List.replicate ((qaz 0 n).length-1-qbM n i) false:=by decide +kernel
theorem qkA{n i p:Nat}(h:p<n)(hn:n≤16):qe2 n i p=(p==(pkT n i).1)::qe2 n i (p+sz p n):=by
 unfold qe2;rw[qcH h hn];rfl
theorem qlA{n i p:Nat}(h:n≤p):qe2 n i p=[]:=by unfold qe2;rw[qd0 h];rfl
theorem qkb(dg root:Int):∀ (m:Nat) (out:Int) (rest:List Int),qkU dg root (List.replicate m false) out rest=(decide (rest.length=m)&&(qdI out rest==dg))
 |0,out,rest=>by cases rest <;> simp[qkU,qdI]
 |m+1,out,[]=>by simp[List.replicate_succ,qkU]
 |m+1,out,x::xs=>by
  rw[List.replicate_succ,qkU,qkb dg root m];simp[qdI]
theorem qka(dg root:Int)(bs:List Bool):∀ (k:Nat) (out:Int) (rest:List Int),qkU dg root (List.replicate k false++bs) out rest=(decide (k≤rest.length)&&qkU dg root bs (qdI out (rest.take k)) (rest.drop k))
 |0,out,rest=>by simp[qdI]
 |k+1,out,[]=>by simp[List.replicate_succ,qkU]
 |k+1,out,x::xs=>by
  rw[List.replicate_succ,List.cons_append,qkU,qka dg root bs k];simp[qdI]
theorem qks{n i:Nat}(hn:n≤16)(hi:i<n)(dg leaf:Int)(proof:List Int)(hp:lev n i≤proof.length):
 qkU dg (qb0 i 0 leaf (proof.take (lev n i))) (qe2 n i 0) n (proof.drop (lev n i))=qbl dg n i leaf proof:=by
 obtain⟨p1,_⟩:=qhA n (by omega) i hi;rw[qmG n (by omega) i hi,qka,qkU,qkb];unfold qbl;generalize qb0 i 0 leaf (proof.take (lev n i))=r
 rw[Bool.eq_iff_iff];simp only[Bool.and_eq_true,decide_eq_true_eq,List.length_drop,beq_iff_eq,qdI,List.foldl_append,List.foldl_cons,List.foldl_nil];omega
theorem qfJ{n i:Nat}(dg leaf:Int)(proof:List Int)(h:proof.length<lev n i):qbl dg n i leaf proof=false:=by
 unfold qbl;rw[decide_eq_false (by omega)];rfl
structure Hd where
 len:Int
 dg:Int
 sg:Int
structure Fd where
 pub:Int
 hd:Hd
 bl:List ByteArray
 hv:List Bool
def Hd.zero:Hd:=⟨0,0,0⟩
def Hd.isZero(h:Hd):Bool:=h.len==0&&h.dg==0&&h.sg==0
def qbE(pub:Int)(h:Hd):Bool:=key pub&&inB h.len 0 16&&dig h.dg&&key h.sg&&(h.sg*5%997==pub*(qbo h.len h.dg+1)%997)
def cnt(l:List Bool):Nat:=l.count true
def qeG(l:List Bool):Int:=if l.length≤16 then (cnt l:Int) else -1
theorem qlr(l:List Bool):cnt l≤l.length:=List.count_le_length
theorem qjR(l:List Bool)(b:Bool):cnt (l++[b])=cnt l+if b then 1 else 0:=by
 unfold cnt;rw[List.count_append];cases b <;> simp
def qbA(l:List Bool):Bool:=qeG l==(l.length:Int)
def lvs(bl:List ByteArray):List Int:=bl.map fun s=>qbi s.data.toList
theorem qlV(bl:List ByteArray):qb7 (lvs bl)=true:=by
 unfold qb7 lvs;rw[List.all_map,List.all_eq_true];intro x _;exact qgh _
theorem qcP(bl:List ByteArray):(lvs bl).length=bl.length:=by simp[lvs]
def qbQ(s:ByteArray)(b:Bool):Bool:=decide (s.size≤8)&&(b||s.size==0)
def qaI:List ByteArray→List Bool→Bool
 |s::bl,b::hv=>qbQ s b&&qaI bl hv
 |_,_=>true
def qaq(f:Fd):Bool:=
 key f.pub&&(f.hd.isZero||qbE f.pub f.hd)&&((f.bl.length:Int)==f.hd.len)&&((f.hv.length:Int)==f.hd.len)&&qaI f.bl f.hv&&
 (f.bl.length==0|| !qbA f.hv||qbN (lvs f.bl)==f.hd.dg)

theorem qdA{bl:List ByteArray}{hv:List Bool}{k:Nat}(h1:k<bl.length)(h2:k<hv.length)(h:qaI (bl.take k) (hv.take k)=true)(hb:qbQ bl[k] hv[k]=true):
 qaI (bl.take (k+1)) (hv.take (k+1))=true:=by
 induction bl generalizing hv k with
 |nil=>simp at h1
 |cons s bl ih=>
  cases hv with
  |nil=>simp at h2
  |cons b hv=>
   cases k with
   |zero=>simp[qaI] at *;exact hb
   |succ k=>
    simp only[List.take_succ_cons,qaI,Bool.and_eq_true] at h ⊢;exact⟨h.1,ih (by simpa using h1) (by simpa using h2) h.2 (by simpa using hb)⟩
theorem qeq{bl:List ByteArray}{hv:List Bool}{k:Nat}(h1:k<bl.length)(h2:k<hv.length)(hb:qbQ bl[k] hv[k]=false):qaI bl hv=false:=by
 induction bl generalizing hv k with
 |nil=>simp at h1
 |cons s bl ih=>
  cases hv with
  |nil=>simp at h2
  |cons b hv=>
   cases k with
   |zero=>simp at hb;simp[qaI,hb]
   |succ k=>
    simp only[qaI];rw[ih (k:=k) (by simpa using h1) (by simpa using h2) (by simpa using hb),Bool.and_false]
theorem qdR{bl:List ByteArray}{hv:List Bool}{k:Nat}(h1:bl.length≤k)(h2:hv.length≤k)(h:qaI (bl.take k) (hv.take k)=true):qaI bl hv=true:=by
 rwa[List.take_of_length_le h1,List.take_of_length_le h2] at h
theorem qcT{bl:List ByteArray}{hv:List Bool}(hl:bl.length=hv.length)(h:qaI bl hv=true):∀ s ∈ bl,s.size≤8:=by
 induction bl generalizing hv with
 |nil=>simp
 |cons s bl ih=>
  cases hv with
  |nil=>simp at hl
  |cons b hv=>
   simp only[qaI,Bool.and_eq_true,qbQ,decide_eq_true_eq] at h;intro x hx;rcases List.mem_cons.1 hx with rfl|hx
   · exact h.1.1
   · exact ih (by simpa using hl) h.2 x hx
theorem qfv(s:ByteArray):s.data.toList.length=s.size:=rfl
theorem qgi(s:ByteArray):s.toList=s.data.toList:=by
 have key:∀ (n:Nat) (i:Nat) (r:List UInt8),s.size-i=n→ByteArray.toList.loop s i r=r.reverse++s.data.toList.drop i:=by
  intro n;induction n with
  |zero=>
   intro i r h;unfold ByteArray.toList.loop;rw[if_neg (by omega),List.drop_of_length_le (by rw[qfv];omega),List.append_nil]
  |succ n ih=>
   intro i r h;unfold ByteArray.toList.loop;have hi:i<s.data.toList.length:=by rw[qfv];omega
   rw[if_pos (by omega),ih (i+1) _ (by omega),List.drop_eq_getElem_cons hi];have hg:s.get! i=s.data.toList[i]:=by
     show s.data[i]! =_;rw[getElem!_pos s.data i (by simpa using hi)];simp
   simp[hg]
 have:=key s.size 0 [] (by omega);simpa[ByteArray.toList] using this
theorem qfd{s:ByteArray}(h:s.size=0):s.toList.isEmpty=true:=by
 rw[qgi,List.isEmpty_iff,List.eq_nil_iff_length_eq_zero,qfv];exact h
theorem qex{s:ByteArray}(h:¬ s.size=0):s.toList.isEmpty=false:=by
 rw[qgi,List.isEmpty_eq_false_iff];intro h2;exact h (by have:=congrArg List.length h2;rw[qfv] at this;exact this)
theorem qdy{s:ByteArray}(h:s.size=0):qbQ s false=true:=by unfold qbQ;rw[h];rfl
theorem qdQ{s:ByteArray}(h:¬ s.size=0):qbQ s false=false:=by
 unfold qbQ;rw[show(s.size==0)=false by simpa only[beq_eq_false_iff_ne] using h];simp
end Go.Proofs.YtekaaekpdebloaaGreatDoor
namespace Go.Proofs.YtekaaekpdebloaaGreatDoor
open Go.RowKit
abbrev bB(a b:World):Prop:=Below a.heap.size a b
abbrev gV(f:FuncId)(a:Array Value)(w:World)(v:Value):Prop:=Calls Tryz.prog f a w fun e w'=>e=.returned v∧bB w w'
abbrev gS(f:FuncId)(a:Array Value)(w:World)(v:Value):Prop:=Calls Tryz.prog f a w fun e w'=>e=.returned v∧w=w'
theorem hI_{p:Prop}(h:p):Hid p:=Lib.hid h
theorem nr_(n:Nat):n≤n:=Nat.le_refl n
theorem bR_(B:Nat)(w:World):Below B w w:=Below.refl B w
theorem nL_{a b c:Nat}(h:a<b)(k:b≤c):a<c:=Nat.lt_of_lt_of_le h k

section
variable {α:Type} {enc:α→Value} {w w':World} {v:Value} {l:List α}

def R1(enc:α→Value)(w:World)(v:Value)(l:List α):Prop:=
 ∃ (A:Option Addr) (c:Nat),v=.slice A l.length c∧(l.length≤c∧(A=none→c=0))∧c≤maxLen∧
  (0<l.length→∃ b o,A=some ⟨b,o,none⟩∧b<w.heap.size∧∀ j (hj:j<l.length),w.cell? ⟨b,o+j,none⟩=some (enc l[j]))

abbrev RI:=R1 (Value.int .i64)
abbrev RB:=R1 Value.bool
abbrev RS:=R1 Value.string
theorem R1.keep(h:R1 enc w v l)(hs:w.heap.size≤w'.heap.size)(hk:∀ p:Addr,p.block<w.heap.size→w'.cell? p=w.cell? p):R1 enc w' v l:=by
 obtain⟨A,c,hv,h1,h2,h3⟩:=h;refine⟨A,c,hv,h1,h2,fun hl=> ?_⟩;obtain⟨b,o,hA,hb,hc⟩:=h3 hl;exact⟨b,o,hA,by omega,fun j hj=>(hk _ hb).trans (hc j hj)⟩
theorem R1.below(h:R1 enc w v l)(hb:Below w.heap.size w w'):R1 enc w' v l:=h.keep hb.size fun _ hp=>hb.cell hp
theorem R1.alloc(h:R1 enc w v l)(o:Obj):R1 enc (w.alloc o) v l:=h.below ((Below.refl _ _).alloc (Nat.le_refl _) o)
theorem R1.drew(h:R1 enc w v l):R1 enc w.drew v l:=h
theorem R1.take{A:Option Addr}{c n:Nat}(h:R1 enc w (.slice A n c) l){m:Nat}(hm:m≤l.length):R1 enc w (.slice A m c) (l.take m):=by
 obtain⟨A',c',he,h1,h2,h3⟩:=h;obtain⟨rfl,rfl,rfl⟩:A=A'∧n=l.length∧c=c':=by injection he with a b c;exact⟨a,b,c⟩
 have hml:(l.take m).length=m:=by simp;omega
 refine⟨A,c,by rw[hml],⟨by omega,h1.2⟩,h2,fun hl=> ?_⟩;obtain⟨b,o,hA,hb,hc⟩:=h3 (by omega);exact⟨b,o,hA,hb,fun j hj=>by rw[hc j (by omega)];simp⟩
theorem R1.drop{b o:Nat}{c n:Nat}(h:R1 enc w (.slice (some ⟨b,o,none⟩) n c) l){m:Nat}(hm:m≤l.length):R1 enc w (.slice (some ⟨b,o+m,none⟩) (n-m) (c-m)) (l.drop m):=by
 obtain⟨A',c',he,h1,h2,h3⟩:=h;obtain⟨rfl,rfl,rfl⟩:some ⟨b,o,none⟩=A'∧n=l.length∧c=c':=by injection he with a b c;exact⟨a,b,c⟩
 have hml:(l.drop m).length=l.length-m:=by simp
 refine⟨_,c-m,by rw[hml],⟨by omega,fun h=>by cases h⟩,by omega,fun hl=> ?_⟩;obtain⟨b',o',hA,hb,hc⟩:=h3 (by omega);cases hA;exact⟨b,o+m,rfl,hb,fun j hj=>by rw[Nat.add_assoc,hc (m+j) (by omega)];simp⟩
theorem R1.len(h:R1 enc w v l):l.length≤maxLen:=by obtain⟨_,_,_,h1,h2,_⟩:=h;omega
theorem R1.nil(enc:α→Value)(w:World):R1 enc w (.slice none 0 0) []:=⟨none,0,rfl,⟨Nat.le_refl _,fun _=>rfl⟩,by unfold maxLen;omega,fun h=>by simp at h⟩

def O1(enc:α→Value)(B:Nat)(e:TypeId)(w:World)(v:Value)(l:List α):Prop:=w.ownsRow B e 1 v l.length (l.map enc)

theorem O1.r1{B:Nat}{e:TypeId}(h:O1 enc B e w v l):R1 enc w v l:=by
 obtain⟨h1,h2⟩:=h;rcases h2 with⟨rfl,h0⟩|⟨g,cap,cur,rfl,hg,hh,hn,hc,hs,ht⟩
 · have:l=[]:=List.eq_nil_of_length_eq_zero h0;subst this;exact R1.nil enc w
 · refine⟨_,cap,rfl,⟨hn,fun h=>by cases h⟩,hc,fun _=>⟨g,0,rfl,(Array.getElem?_eq_some_iff.1 hh).1,fun j hj=> ?_⟩⟩;rw[Nat.zero_add,cell_of_row w g j cur e (0,0) hh];have h3:(l.map enc)[j]? =some (enc l[j]):=by simp[hj]
   rw[←ht,List.getElem?_take] at h3;split at h3
   · simpa using h3
   · cases h3
theorem O1.below{B:Nat}{e:TypeId}(h:O1 enc B e w v l)(hb:Below w.heap.size w w'):O1 enc B e w' v l:=by
 refine⟨h.1,?_⟩;rcases h.2 with hn|⟨g,cap,cur,hv,hg,hh,r⟩
 · exact .inl hn
 · exact .inr ⟨g,cap,cur,hv,hg,(hb.block g (Array.getElem?_eq_some_iff.1 hh).1).trans hh,r⟩
theorem O1.mono{B B':Nat}{e:TypeId}(h:O1 enc B e w v l)(hB:B'≤B):O1 enc B' e w v l:=by
 refine⟨h.1,?_⟩;rcases h.2 with hn|⟨g,cap,cur,hv,hg,hh,r⟩
 · exact .inl hn
 · exact .inr ⟨g,cap,cur,hv,by omega,hh,r⟩
theorem O1.nil(enc:α→Value)(B:Nat)(e:TypeId)(w:World):O1 enc B e w (.slice none 0 0) []:=⟨by simp,.inl ⟨rfl,rfl⟩⟩
theorem O1.made(enc:α→Value)(w:World)(e:TypeId):O1 enc w.heap.size e (w.alloc (.cells #[] e)) (.slice (some ⟨w.heap.size,0,none⟩) 0 0) []:=
 World.ownsRow_made w #[] 0 (Nat.le_refl _) (by unfold maxLen;omega) (by simp)
theorem O1.alloc{B:Nat}{e:TypeId}(h:O1 enc B e w v l)(o:Obj):O1 enc B e (w.alloc o) v l:=h.below ((Below.refl _ _).alloc (Nat.le_refl _) o)
theorem O1.len{B:Nat}{e:TypeId}(h:O1 enc B e w v l):l.length≤maxLen:=h.r1.len
end

theorem qhk{α:Type}{enc:α→List Value}{m:Nat}(hm:∀ a,(enc a).length=m):∀ (l:List α) (j t:Nat) (hj:j<l.length),t<m→(l.flatMap enc)[j*m+t]? =(enc l[j])[t]?
 |[],j,_,hj,_=>by simp at hj
 |x::l,0,t,_,ht=>by
  rw[List.flatMap_cons,Nat.zero_mul,Nat.zero_add,List.getElem?_append_left (by rw[hm];exact ht)];rfl
 |x::l,j+1,t,hj,ht=>by
  rw[List.flatMap_cons,List.getElem?_append_right (by rw[hm,Nat.succ_mul];omega),hm];have:(j+1)*m+t-m=j*m+t:=by rw[Nat.succ_mul];omega
  rw[this,qhk hm l j t (by simpa using hj) ht];rfl
theorem qhl{α:Type}{enc:α→List Value}{m:Nat}(hm:∀ a,(enc a).length=m):∀ (l:List α),(l.flatMap enc).length=l.length*m
 |[]=>by simp
 |x::l=>by rw[List.flatMap_cons,List.length_append,hm,qhl hm l,List.length_cons,Nat.succ_mul];omega

section
variable {α:Type} {e1 e2:α→Value} {w w':World} {v:Value} {l:List α}
def R2(e1 e2:α→Value)(w:World)(v:Value)(l:List α):Prop:=
 ∃ (A:Option Addr) (c:Nat),v=.slice A l.length c∧(l.length≤c∧(A=none→c=0))∧c≤maxLen∧
  (0<l.length→∃ b o,A=some ⟨b,o,none⟩∧b<w.heap.size∧∀ j (hj:j<l.length),w.cell? ⟨b,o+j*2,none⟩=some (e1 l[j])∧w.cell? ⟨b,o+j*2+1,none⟩=some (e2 l[j]))
theorem R2.keep(h:R2 e1 e2 w v l)(hs:w.heap.size≤w'.heap.size)(hk:∀ p:Addr,p.block<w.heap.size→w'.cell? p=w.cell? p):R2 e1 e2 w' v l:=by
 obtain⟨A,c,hv,h1,h2,h3⟩:=h;refine⟨A,c,hv,h1,h2,fun hl=> ?_⟩;obtain⟨b,o,hA,hb,hc⟩:=h3 hl;exact⟨b,o,hA,by omega,fun j hj=>⟨(hk _ hb).trans (hc j hj).1,(hk _ hb).trans (hc j hj).2⟩⟩
theorem R2.below(h:R2 e1 e2 w v l)(hb:Below w.heap.size w w'):R2 e1 e2 w' v l:=h.keep hb.size fun _ hp=>hb.cell hp
theorem R2.len(h:R2 e1 e2 w v l):l.length≤maxLen:=by obtain⟨_,_,_,h1,h2,_⟩:=h;omega
def O2(e1 e2:α→Value)(B:Nat)(e:TypeId)(w:World)(v:Value)(l:List α):Prop:=w.ownsRow B e 2 v l.length (l.flatMap fun a=>[e1 a,e2 a])
theorem O2.r2{B:Nat}{e:TypeId}(h:O2 e1 e2 B e w v l):R2 e1 e2 w v l:=by
 obtain⟨h1,h2⟩:=h;rcases h2 with⟨rfl,h0⟩|⟨g,cap,cur,rfl,hg,hh,hn,hc,hs,ht⟩
 · have:l=[]:=List.eq_nil_of_length_eq_zero h0;subst this;exact⟨none,0,rfl,⟨Nat.le_refl _,fun _=>rfl⟩,by unfold maxLen;omega,fun h=>by simp at h⟩
 · refine⟨_,cap,rfl,⟨hn,fun h=>by cases h⟩,hc,fun _=>⟨g,0,rfl,(Array.getElem?_eq_some_iff.1 hh).1,fun j hj=> ?_⟩⟩;have key:∀ t,t<2→cur[j*2+t]? =[e1 l[j],e2 l[j]][t]? :=by
    intro t ht2;have h3:=qhk (enc:=fun a=>[e1 a,e2 a]) (m:=2) (fun _=>rfl) l j t hj ht2;rw[←ht,List.getElem?_take,if_pos (by omega)] at h3;simpa using h3
   rw[cell_of_row w g _ cur e (0,0) hh,cell_of_row w g _ cur e (0,0) hh,Nat.zero_add];exact⟨key 0 (by omega),key 1 (by omega)⟩
theorem O2.below{B:Nat}{e:TypeId}(h:O2 e1 e2 B e w v l)(hb:Below w.heap.size w w'):O2 e1 e2 B e w' v l:=by
 refine⟨h.1,?_⟩;rcases h.2 with hn|⟨g,cap,cur,hv,hg,hh,r⟩
 · exact .inl hn
 · exact .inr ⟨g,cap,cur,hv,hg,(hb.block g (Array.getElem?_eq_some_iff.1 hh).1).trans hh,r⟩
end

theorem qa3{a b c:World}(h:Below a.heap.size a b)(k:Below b.heap.size b c):Below a.heap.size a c:=h.trans (k.mono h.size)
theorem qac{a b:World}(h:Below a.heap.size a b):Below a.heap.size a b.drew:=h.drew
theorem qab{a b:World}(h:Below a.heap.size a b)(o:Obj):Below a.heap.size a (b.alloc o):=h.alloc h.size o
theorem qeY{W w1:World}{B:Nat}(hb:Below B W w1):(∀ b o,b<B→w1.cell? ⟨b,o,none⟩=W.cell? ⟨b,o,none⟩)∧(∀ b o,b<B→w1.frozen? ⟨b,o,none⟩=W.frozen? ⟨b,o,none⟩):=
 ⟨fun b o h=>hb.cell (p:=⟨b,o,none⟩) h,fun b o h=>hb.frozen (p:=⟨b,o,none⟩) h⟩

theorem qaM{a b:Bool}(h:a=b):Ending.returned (.bool a)=Ending.returned (.bool b):=by rw[h]
theorem qfp{k:IntKind}{a b:Int}(h:a=b):Ending.returned (.int k a)=Ending.returned (.int k b):=by rw[h]

def up(W X:World):World:={W with heap:=W.heap++X.heap.extract W.heap.size X.heap.size,drawn:=X.drawn}
theorem qao(W X:World):Below W.heap.size W (up W X):=
 ⟨rfl,rfl,rfl,by simp[up],fun k hk=>by simp only[up];rw[Array.getElem?_append_left hk]⟩
theorem qjP{W w':World}(h:Below W.heap.size W w'):w'=up W w':=by
 obtain⟨h1,h2,h3,h4,h5⟩:=h;have hh:w'.heap=W.heap++w'.heap.extract W.heap.size w'.heap.size:=by
  apply Array.ext_getElem?;intro k;by_cases hk:k<W.heap.size
  · rw[h5 k hk,Array.getElem?_append_left hk]
  · rw[Array.getElem?_append_right (by omega)];rw[Array.getElem?_extract];by_cases h6:k<w'.heap.size
    · rw[if_pos (by omega)];congr 1;omega
    · rw[if_neg (by omega),Array.getElem?_eq_none (by omega)]
 obtain⟨a,b,c,d,e⟩:=w';simp only at h1 h2 h3 hh;simp only[up];rw[←hh,h1,h2,h3]
theorem qap(W:World):∀ (X:World) (b o:Nat),b<W.heap.size→(up W X).cell? ⟨b,o,none⟩=W.cell? ⟨b,o,none⟩:=fun X b o h=>(qao W X).cell (p:=⟨b,o,none⟩) h
theorem qad{P:Program}{id:Nat}{Q:Exit→Act→World→Prop}{a:Act}{w:World}{l:List Oper}(hm:P.follows .mixedOrders=true)(hB:Region.lexB .any l.toArray=true)
 (h:wpQuiet P l.toArray (fun w'=>∃ X,w'=up w X) (fun a'=>∀ w',(∃ X,w'=up w X)→Q .normal a' w') l a):(Code.region id l.toArray true).wp P Q a w:=
 wp_region_quiet (C:=fun w'=>∃ X,w'=up w X) hm hB ⟨_,qjP (W:=w) (w':={w with drawn:=w.drawn+1}) ⟨rfl,rfl,rfl,Nat.le_refl _,fun _ _=>rfl⟩⟩ (by simpa using h)
theorem qoH{P:Program}{id:Nat}{Q:Exit→Act→World→Prop}{a:Act}{w:World}{l:List Oper}
 (h:wpQuiet P l.toArray (fun w'=>∃ X,w'=up w X) (fun a'=>∀ w',(∃ X,w'=up w X)→Q .normal a' w') l a) (hm:P.follows .mixedOrders=true:=by kernel_rfl) (hB:Region.lexB .any l.toArray=true:=by kernel_rfl):(Code.region id l.toArray true).wp P Q a w:=qad hm hB h
theorem qal{P:Program}{f:FuncId}{args:Array Value}{W X:World}{v:Value}
 (h:Calls P f args (up W X) fun e w'=>e=.returned v∧Below (up W X).heap.size (up W X) w'):Calls P f args (up W X) fun e w''=>e=.returned v∧∃ X',w''=up W X':=
 h.mono fun _ _ ⟨he,hb⟩=>⟨he,_,qjP (qa3 (qao W X) hb)⟩
theorem qaj{P:Program}{f:FuncId}{args:Array Value}{W X:World}{v:Value}
 (h:Calls P f args (up W X) fun e w'=>e=.returned v∧up W X=w'):Calls P f args (up W X) fun e w''=>e=.returned v∧∃ X',w''=up W X':=
 h.mono fun _ _ ⟨he,hb⟩=>⟨he,X,hb.symm⟩
theorem R1.up{α:Type}{enc:α→Value}{w:World}{v:Value}{l:List α}(h:R1 enc w v l)(X:World):R1 enc (up w X) v l:=h.below (qao w X)
theorem qay{W w':World}(h:∃ X,w'=Go.Proofs.YtekaaekpdebloaaGreatDoor.up W X):Below W.heap.size W w':=by obtain⟨X,rfl⟩:=h;exact qao W X

theorem qld{P:Program}{ops:Array Oper}{rest:List Oper}{o:Oper}{a:Act}{Q:Exit→Act→World→Prop}{w:World}(t e size bytes:Nat)(i:TypeInfo)(z:Value)
 (ht:P.underlying t=some (.slice e)) (hi:P.info? e=some i) (hz:i.zero=some z) (hsize:i.size=size) (hby:i.bytes=bytes) (hzs:z.cells.size=size) (hsz:0<size) (hb100:bytes≤1000)
 {base:Nat} {v:Value} {n:Nat} {xs:List Value} (hown:w.ownsRow base e size v n xs) (hn:n≤100000000000) (hbase:base≤w.heap.size)
 {cur:Array Value} (hgd:o.guard=none) {s x:Operand} (ho:o.op=.call {callee:=.builtin .append,args:= #[s,x],argTypes:= #[t,t]})
 (hs:a.eval s=v) (hx:a.eval x=.slice (some ⟨w.heap.size,0,none⟩) 1 1) (hl:cur.size=size) (h1:∀ u ∈ cur.toList,u.oneCell'=true)
 (h:∀ v' w',w'.ownsRow base e size v' (n+1) (xs++cur.toList)→Below base w w'→wpList P ops Q rest (a.put o.dst v') w'):wpList P ops Q (o::rest) a (w.alloc (.cells cur e)):=by
 have hbd:(n+1)*bytes≤100000000001*1000:=Nat.mul_le_mul (by omega) hb100;refine wpList_append_own _ hgd s x t ho base e i z size bytes ht hi hz hsize hby hzs hsz v n xs hs
  (hown.alloc _) ⟨w.heap.size,0,none⟩ 1 1 cur.toList hx (by simp[hl]) (fun j u hu=> ?_) h1 (by unfold maxLen;omega) (by omega) (by simp;omega) ?_
 · have hadd:(⟨w.heap.size,0,none⟩:Addr).add j=⟨w.heap.size,j,none⟩:=by unfold Addr.add;split <;> simp_all
   rw[hadd,cell_of_row _ w.heap.size j cur e (0,0) (heap_alloc_new w _)];simpa using hu
 · intro v' w' h2 h3 _;exact h v' w' h2 (((Below.refl _ _).alloc hbase _).grown h3 (by simp;omega) (fun k hk=>((hown.alloc (.cells cur e)).lt k hk).1))

theorem qja{α:Type}{enc:α→Value}(h1:∀ x,(enc x).oneCell'=true){P:Program}{ops:Array Oper}{rest:List Oper}{o:Oper}{a:Act}{Q:Exit→Act→World→Prop}{w:World}(t e bytes:Nat)(i:TypeInfo)(z:Value)
 (ht:P.underlying t=some (.slice e)) (hi:P.info? e=some i) (hz:i.zero=some z) (hsize:i.size=1) (hby:i.bytes=bytes) (hzs:z.cells.size=1) (hb100:bytes≤1000)
 {base:Nat} {v x:Value} {l l2:List α} (hown:O1 enc base e w v l) (hr:R1 enc w x l2) (hn:l.length+l2.length≤100000000000) (hbase:base≤w.heap.size)
 (hgd:o.guard=none) {s y:Operand} (ho:o.op=.call {callee:=.builtin .append,args:= #[s,y],argTypes:= #[t,t]})
 (hs:a.eval s=v) (hx:a.eval y=x)
 (h:∀ v' w',O1 enc base e w' v' (l++l2)→Below base w w'→wpList P ops Q rest (a.put o.dst v') w'):wpList P ops Q (o::rest) a w:=by
 obtain⟨A,c,rfl,h2,h3,h4⟩:=hr;have hbd:(l.length+l2.length)*bytes≤100000000000*1000:=Nat.mul_le_mul hn hb100;rcases A with _|ad
 · have hc0:c=0:=h2.2 rfl;have hl0:l2=[]:=List.eq_nil_of_length_eq_zero (by omega);subst hc0 hl0;exact wpList_append_own_none hgd s y t ho base e i 1 ht hi v l.length _ hs hown hx (h v w (by rw[List.append_nil];exact hown) (Below.refl _ _))
 · refine wpList_append_own _ hgd s y t ho base e i z 1 bytes ht hi hz hsize hby hzs (by omega) v l.length _ hs hown ad l2.length c (l2.map enc) hx (by simp) (fun j u hu=> ?_) (by simp;intro x _;exact h1 x) (by unfold maxLen;omega) (by omega) hbase ?_
   · have hj:j<l2.length:=by have:=(List.getElem?_eq_some_iff.1 hu).1;simpa using this
     obtain⟨b,o',hA,hb,hcell⟩:=h4 (by omega);cases hA;have hadd:(⟨b,o',none⟩:Addr).add j=⟨b,o'+j,none⟩:=by unfold Addr.add;split <;> simp_all
     rw[hadd,hcell j hj];simp[hj] at hu;rw[hu]
   · intro v' w' h5 h6 _;exact h v' w' (by unfold O1;simpa using h5) ((Below.refl _ _).grown h6 hbase (fun k hk=>(World.ownsRow.lt hown k hk).1))

theorem qfx:(Tryz.prog.info? 3).map (fun i=>(i.zero,i.size,i.bytes))=some (some (.int .i64 0),1,8):=by kernel_rfl
theorem qik:(Tryz.prog.info? 238).map (fun i=>(i.zero,i.size,i.bytes))=some (some (.agg #[.int .i64 0,.int .i64 0]),2,16):=by kernel_rfl

section
variable {ops:Array Oper} {rest:List Oper} {o:Oper} {a:Act} {Q:Exit→Act→World→Prop} {w:World} {base:Nat} {v:Value}
theorem qcf{l:List Int}(hown:O1 (Value.int .i64) base 3 w v l)(hn:l.length≤100000000000)(hbase:base≤w.heap.size){y:Int}(hgd:o.guard=none){s x:Operand}
 (ho:o.op=.call {callee:=.builtin .append,args:= #[s,x],argTypes:= #[43,43]}) (hs:a.eval s=v) (hx:a.eval x=.slice (some ⟨w.heap.size,0,none⟩) 1 1)
 (h:∀ v' w',O1 (Value.int .i64) base 3 w' v' (l++[y])→Below base w w'→wpList Tryz.prog ops Q rest (a.put o.dst v') w'):wpList Tryz.prog ops Q (o::rest) a (w.alloc (.cells #[.int .i64 y] 3)):=by
 obtain⟨i0,hi,hz0,hz1,hz2⟩:=info_parts qfx;exact qld 43 3 1 8 i0 _ Tryz.underlying43 hi hz0 hz1 hz2 rfl (by omega) (by omega) hown hn hbase hgd ho hs hx rfl (by simp;rfl) fun v' w' h2 h3=>h v' w' (by unfold O1;simpa using h2) h3
theorem qdx{l l2:List Int}{x:Value}(hown:O1 (Value.int .i64) base 3 w v l)(hr:RI w x l2)(hn:l.length+l2.length≤100000000000)(hbase:base≤w.heap.size)
 (hgd:o.guard=none) {s y:Operand} (ho:o.op=.call {callee:=.builtin .append,args:= #[s,y],argTypes:= #[43,43]}) (hs:a.eval s=v) (hx:a.eval y=x)
 (h:∀ v' w',O1 (Value.int .i64) base 3 w' v' (l++l2)→Below base w w'→wpList Tryz.prog ops Q rest (a.put o.dst v') w'):wpList Tryz.prog ops Q (o::rest) a w:=by
 obtain⟨i0,hi,hz0,hz1,hz2⟩:=info_parts qfx;exact qja (fun _=>rfl) 43 3 8 i0 _ Tryz.underlying43 hi hz0 hz1 hz2 rfl (by omega) hown hr hn hbase hgd ho hs hx h
theorem qlY{n:Nat}{lo co:Operand}(hgd:o.guard=none)(ho:o.op=Op.makeSlice 43 lo co)(hl:a.eval lo=.int .i64 0)(hc:a.eval co=.int .i64 (n:Int))(hn:n≤1000000000000)
 (h:∀ v' w',O1 (Value.int .i64) w.heap.size 3 w' v' []→Below w.heap.size w w'→wpList Tryz.prog ops Q rest (a.put o.dst v') w'):wpList Tryz.prog ops Q (o::rest) a w:=by
 obtain⟨i0,hi,hz0,hz1,hz2⟩:=info_parts qfx;exact wpList_make_own w hgd lo co _ ho w.heap.size _ i0 _ 1 Tryz.underlying43 hi hz0 hz1 .i64 .i64 _ n hl hc rfl (by rw[hz2];omega) (by unfold maxLen;omega) (Nat.le_refl _)
  fun w' h1 h2=>h _ w' h1 ((Below.refl _ _).grown h2 (Nat.le_refl _) (fun k hk=>by cases hk))

theorem qjO{n:Nat}{xs:List Value}(hown:w.ownsRow base 238 2 v n xs)(hn:n≤100000000000)(hbase:base≤w.heap.size){y z:Int}(hgd:o.guard=none){s x:Operand}
 (ho:o.op=.call {callee:=.builtin .append,args:= #[s,x],argTypes:= #[234,234]}) (hs:a.eval s=v) (hx:a.eval x=.slice (some ⟨w.heap.size,0,none⟩) 1 1)
 (h:∀ v' w',w'.ownsRow base 238 2 v' (n+1) (xs++[.int .i64 y,.int .i64 z])→Below base w w'→wpList Tryz.prog ops Q rest (a.put o.dst v') w'):
 wpList Tryz.prog ops Q (o::rest) a (w.alloc (.cells #[.int .i64 y,.int .i64 z] 238)):=by
 obtain⟨i0,hi,hz0,hz1,hz2⟩:=info_parts qik;exact qld 234 238 2 16 i0 _ Tryz.underlying234 hi hz0 hz1 hz2 rfl (by omega) (by omega) hown hn hbase hgd ho hs hx rfl (by simp;exact⟨rfl,rfl⟩) h
end
theorem wq_{P:Program} {ops:Array Oper} {C:World→Prop} {Q:Act→World→Prop} {a:Act} {w:World} (h:∀ w1,Below w.heap.size w w1→Q a w1):wpQuiet P ops C (fun a'=>∀ w',(∃ X,w'=up w X)→Q a' w') [] a:=fun w1 x=>h w1 (qay x)
theorem nm_{α:Type} (a:α):∃ b,Hid (a=b):=⟨_,hI_ rfl⟩
theorem A_{p:Prop} (h:p:=by rw[List.length_append];exact h3):p:=h
theorem D_{p:Prop} (h:p:=by rw[←HW0.out];exact qbu (by simp)):p:=h
theorem E_{p:Prop} (h:p:=by show w.heap.size<q+1;omega):p:=h
theorem F_{p:Prop} (h:p:=by rw[←HW1.out];exact(hb0.mono h.bs).setCell (p:=⟨q,0,none⟩) h.bq _):p:=h
theorem J_{p:Prop} (h:p:=by injection he):p:=h
theorem K_{p:Prop} (h:p:=by show out.length+1≤_;omega):p:=h
theorem L_{p:Prop} (h:p:=by with_reducible repeat(first|exact bR_ _ _|exact hb011|exact hb012|refine qab ?_ _|refine qac ?_|refine qaN ?_ (by omega))):p:=h
theorem M_{p:Prop} (h:p:=by rw[←HW0.out];exact qau (heap_alloc_new _ _)):p:=h
theorem N_{p:Prop} (h:p:=by rw[←HW1.out];exact World.cell?_setCell_same _ _ _ n0):p:=h
theorem P_{p:Prop} (h:p:=by with_reducible repeat(first|exact at0 _ _|refine qbI ?_|refine qau ?_)):p:=h
theorem Q_{p:Prop} (h:p:=by rw[←HW1.out];exact(h.below hb0).lockc (by omega) _):p:=h
theorem R_{p:Prop} (h:p:=by rw[←HW0.out];exact qab (qab (qab (bR_ _ _) _) _) _):p:=h
theorem S_{p:Prop} (h:p:=by rw[HM.out];omega):p:=h
theorem T_{p:Prop} (h:p:=by rw[←HW0.out];exact qau (qau (heap_alloc_new _ _))):p:=h
theorem U_{p:Prop} (h:p:=by show w.heap.size+1≠w.heap.size;omega):p:=h
theorem V_{p:Prop} (h:p:=by with_reducible repeat(first|exact bR_ _ _|exact hb64|exact hb65|refine qab ?_ _|refine qac ?_)):p:=h
theorem W_{p:Prop} (h:p:=by with_reducible repeat(first|exact bR_ _ _|exact hb01|exact hb06|refine qab ?_ _|refine qac ?_)):p:=h
theorem X_{p:Prop} (h:p:=by have:=HSl.out;omega):p:=h
theorem Y_{p:Prop} (h:p:=by have:=hg5.size;have:=HSl.out;omega):p:=h
theorem a0_{p:Prop} (h:p:=by simp[World.setCell]):p:=h
theorem a1_{p:Prop} (h:p:=by rw[HAT.out,HBP.out];rfl):p:=h
theorem a3_{p:Prop} (h:p:=by rw[HMA.out];simp;omega):p:=h
theorem a4_{p:Prop} (h:p:=by rw[HR.out,HNO.out (qdQ hs0)];simp):p:=h
theorem a5_{p:Prop} (h:p:=by rw[HR.out,HKA.out,HLL.out,hz];rfl):p:=h
theorem a7_{p:Prop} (h:p:=by simp[hee]):p:=h
theorem a8_{p:Prop} (h:p:=by rw[HF00.out];exact g3):p:=h
theorem a9_{p:Prop} (h:p:=by rw[HMA.out];rfl):p:=h
theorem aA_{p:Prop} (h:p:=by rw[h] at hr;cases hr):p:=h
theorem aB_{p:Prop} (h:p:=by rw[List.take_of_length_le (by omega)] at hown;exact hown):p:=h
theorem aC_{p:Prop} (h:p:=by rw[←HX.out,HZD.out,qde,HP.out,←HPS.out,HPU.out]):p:=h
theorem aD_{p:Prop} (h:p:=by rw[←HW6.out];simp):p:=h
theorem aE_{p:Prop} (h:p:=by unfold qbJ;rw[HK.out,HL.out];rfl):p:=h
theorem aF_{p:Prop} (h:p:=by rw[←HW1.out];exact HBW.out.alloc HBW.out.size _):p:=h
theorem aG_{p:Prop} (h:p:=by rw[HRC.out];rfl):p:=h
theorem aH_{p:Prop} (h:p:=by rw[HVF.out,qdi hlt HBA.out];rfl):p:=h
theorem aI_{p:Prop} (h:p:=by rw[HR.out,HNO.out (by simp[qbQ];omega)];simp):p:=h
theorem aJ_{p:Prop} (h:p:=by rw[H1.out,H2.out];rfl):p:=h
theorem aK_{p:Prop} (h:p:=by rw[HV.out,HX.out,HY.out];rfl):p:=h
theorem aL_{p:Prop} (h:p:=by rw[←HX.out,HC.out,List.append_assoc];rfl):p:=h
theorem aM_{p:Prop} (h:p:=by rw[HX.out]):p:=h
theorem aN_{p:Prop} (h:p:=by rw[HPZ.out];simp[ltL];omega):p:=h
theorem aO_{p:Prop} (h:p:=by simp[qbQ];omega):p:=h
theorem aP_{p:Prop} (h:p:=by rw[HAT.out];rfl):p:=h
theorem aQ_{p:Prop} (h:p:=by rw[H1.out,H2.out];exact hb):p:=h
theorem aR_{p:Prop} (h:p:=by rw[HR.out,HKA.out,HLL.out,HWB.out];simp):p:=h
theorem aT_{p:Prop} (h:p:=by rw[hf0.out];exact hv0.out):p:=h
theorem aU_{p:Prop} (h:p:=by rw[HF00.out];exact G4.out):p:=h
theorem aV_{p:Prop} (h:p:=by simpa using hx):p:=h
theorem aW_{p:Prop} (h:p:=by rw[HAT.out];rw[h1,HIN.out,HBP.out];rfl):p:=h
theorem aX_{p:Prop} (h:p:=by rw[List.take_of_length_le (by omega)]):p:=h
theorem aY_{p:Prop} (h:p:=by simpa using hn):p:=h
theorem a_{p:Prop} (h:p:=by omega):p:=h
theorem aa_{p:Prop} (h:p:=by show(out++[(k1,k2)]).length+1≤_;rw[List.length_append];show out.length+1+1≤_;omega):p:=h
theorem ab_{p:Prop} (h:p:=by have:=HS6.out;have:=HL6.out;omega):p:=h
theorem ac_{p:Prop} (h:p:=by simp only;omega):p:=h
theorem ad_{p:Prop} (h:p:=by rw[←HW0.out];exact qau (qbu (by simp))):p:=h
theorem ae_{p:Prop} (h:p:=by simpa using hj):p:=h
theorem af_{p:Prop} (h:p:=by rw[←HW1.out];exact qab (bR_ _ _) _):p:=h
theorem ag_{p:Prop} (h:p:=by with_reducible repeat(first|exact HB5.out|refine qab ?_ _|refine qac ?_)):p:=h
theorem ah_{p:Prop} (h:p:=by simp[go_sem]):p:=h
theorem ai_{p:Prop} (h:p:=by rw[←HW0.out];exact qab (qab (bR_ _ _) _) _):p:=h
theorem aj_{p:Prop} (h:p:=by cases h):p:=h
theorem ak_{p:Prop} (h:p:=by rw[HJ.out];go_num):p:=h
theorem al_{p:Prop} (h:p:=by rw[HS.out,if_neg (by simpa using hx)];rfl):p:=h
theorem am_{p:Prop} (h:p:=by simp[World.frozen?,h]):p:=h
theorem an_{p:Prop} (h:p:=by simp at hj):p:=h
theorem ao_{p:Prop} (h:p:=by have:=h.hqy;show q≠y;omega):p:=h
theorem ap_{p:Prop} (h:p:=by have:=HP.out;simp only;omega):p:=h
theorem aq_{p:Prop} (h:p:=by rw[HTE.out]):p:=h
theorem au_{p:Prop} (h:p:=by rw[HBA.out];first|rfl|rw[HE.out];rfl):p:=h
theorem aw_{p:Prop} (h:p:=by rw[HV.out];rfl):p:=h
theorem ax_{p:Prop} (h:p:=by rw[HTE.out];exact HTl.out.grow hg5 ho5):p:=h
theorem ay_{p:Prop} (h:p:=by rw[HTE.out];exact HT6.out.grow hg7 ho7):p:=h
theorem b0_{p:Prop} (h:p:=by simp[results,Tryz.results20,go_sem,y0,y1,y2,y3,y4,y5]):p:=h
theorem b3_{p:Prop} (h:p:=by simp[madeCells]):p:=h
theorem b7_{p:Prop} (h:p:=by simp[results,Tryz.results183,go_sem]):p:=h
theorem b8_{p:Prop} (h:p:=by simp[results,Tryz.results55,go_sem]):p:=h
theorem bG_{p:Prop} (h:p:=by first|(simp;done)|(simp;omega)):p:=h
theorem bH_{p:Prop} (h:p:=by repeat(first|exact bR_ _ _|refine Below.setCell ?_ (by first|(simp;done)|(simp;omega)) _|refine Below.alloc ?_ (by first|(simp;done)|(simp;omega)) _)):p:=h
theorem bI_{p:Prop} (h:p:=by simp[results,Tryz.results54,go_sem,z0,z1,z2,z3,z4,z5]):p:=h
theorem bJ_{p:Prop} (h:p:=by simp[results,Tryz.results196,go_sem,z0,z1,z2,z3,z4,z5]):p:=h
theorem bK_{p:Prop} (h:p:=by simp[results,Tryz.results198,go_sem,z0,z1,z2,z3,z4,z5]):p:=h
theorem bL_{p:Prop} (h:p:=by simp[results,Tryz.results143,go_sem,z0,z1,z2,z3,z4,z5]):p:=h
theorem bM_{p:Prop} (h:p:=by simp[results,Tryz.results122,go_sem,z0,z1,z2,z3,z4,z5]):p:=h
theorem bN_{p:Prop} (h:p:=by simp[results,Tryz.results121,go_sem,y0,y1,y2,y3,y4,y5]):p:=h
theorem bO_{p:Prop} (h:p:=by simp[results,Tryz.results99,go_sem,y0,y1,y2,y3,y4,y5]):p:=h
theorem bP_{p:Prop} (h:p:=by simp[results,Tryz.results120,go_sem,y0,y1,y2,y3,y4,y5]):p:=h
theorem bS_{p:Prop} (h:p:=by rw[hz2];omega):p:=h
theorem bT_{p:Prop} (h:p:=by first|(simp;done)|(simp;omega)|omega):p:=h
theorem bU_{p:Prop} (h:p:=by simp[results,Tryz.results178,go_sem,z0,z1]):p:=h
theorem bX_{p:Prop} (h:p:=by simp[results,Tryz.results209,go_sem,z0,z1,z2,z3,z4,z5]):p:=h
theorem bY_{p:Prop} (h:p:=by simp[results,Tryz.results118,go_sem,y0,y1,y2,y3,y4,y5]):p:=h
theorem bZ_{p:Prop} (h:p:=by simp[results,Tryz.results21,go_sem,y0,y1,y2,y3,y4,y5]):p:=h
theorem b_{p:Prop} (h:p:=by repeat(first|exact hsz0|exact hsz2|exact hsz3|refine qag ?_|refine qaw ?_ _)):p:=h
theorem ba_{p:Prop} (h:p:=by rw[HPUT.out,HV5.out]):p:=h
theorem bb_{p:Prop} (h:p:=by cases hk):p:=h
theorem bc_{p:Prop} (h:p:=by rw[HD1.out];exact hr1):p:=h
theorem bd_{p:Prop} (h:p:=by simpa using h1):p:=h
theorem be_{p:Prop} (h:p:=by rw[List.length_set];exact h5.rn):p:=h
theorem bf_{p:Prop} (h:p:=by rw[HS.out,hx];simp):p:=h
theorem bm_{p:Prop} (h:p:=by decide +kernel):p:=h
theorem c_{p:Prop} (h:p:=by repeat(first|exact hb1|exact hbm|exact hbn|exact hbo|refine qah ?_|refine qar ?_ (by repeat(first|exact hsz0|exact hsz2|exact hsz3|refine qag ?_|refine qaw ?_ _)) _|refine Below.setCell ?_ (by repeat(first|exact hsz0|exact hsz2|exact hsz3|refine qag ?_|refine qaw ?_ _)) _)):p:=h
theorem ca_{p:Prop} (h:p:=by rw[e];rfl):p:=h
theorem d_{p:Prop} (h:p:=by kernel_rfl):p:=h
theorem e_{p:Prop} (h:p:=by decide):p:=h
theorem f_{p:Prop} (h:p:=by repeat(first|exact hb1'.out|exact hbm|exact hbn|refine qah ?_|refine qar ?_ (by repeat(first|exact hsz0|exact hsz2|exact hsz3|refine qag ?_|refine qaw ?_ _)) _|refine Below.setCell ?_ (by repeat(first|exact hsz0|exact hsz2|exact hsz3|refine qag ?_|refine qaw ?_ _)) _)):p:=h
theorem g_{p:Prop} (h:p:=by repeat(first|exact HBW.out|exact hbm|exact hbn|refine qah ?_|refine qar ?_ (by repeat(first|exact hsz0|exact hsz2|exact hsz3|refine qag ?_|refine qaw ?_ _)) _|refine Below.setCell ?_ (by repeat(first|exact hsz0|exact hsz2|exact hsz3|refine qag ?_|refine qaw ?_ _)) _)):p:=h
theorem i_{p:Prop} (h:p:=by with_reducible repeat(first|exact bR_ _ _|refine qab ?_ _|refine qac ?_)):p:=h
theorem j_{p:Prop} (h:p:=by with_reducible refine⟨Eq.trans (Below.cell (B:=w3.heap.size) ?_ hl3) t0,Eq.trans (Below.cell (B:=w3.heap.size) ?_ hl3) t1,Eq.trans (Below.cell (B:=w3.heap.size) ?_ hl3) t2,Eq.trans (Below.cell (B:=w3.heap.size) ?_ hl3) t3,Eq.trans (Below.cell (B:=w3.heap.size) ?_ hl3) t4,Eq.trans (Below.cell (B:=w3.heap.size) ?_ hl3) t5⟩ <;> (with_reducible repeat(first|exact bR_ _ _|exact hb04|exact hb05|exact hb06|refine qab ?_ _|refine qac ?_))):p:=h
theorem k_{p:Prop} (h:p:=by simp):p:=h
theorem l_{p:Prop} (h:p:=by with_reducible repeat(first|exact bR_ _ _|exact hb06|refine qab ?_ _|refine qac ?_)):p:=h
theorem m_{p:Prop} (h:p:=by repeat(first|with_reducible exact bR_ _ _|with_reducible exact hb04|with_reducible exact hb05|with_reducible exact hb06|with_reducible refine qab ?_ _|with_reducible refine qac ?_|(with_reducible refine qae ?_ ?_ _ _ _ _ _ _;rotate_left;(first|exact nr_ _|omega|(simp;done)|(simp;omega))))):p:=h
theorem n_{p:Prop} (h:p:=by simp;omega):p:=h
theorem o_{p:Prop} (h:p:=by with_reducible repeat(first|exact bR_ _ _|exact hb04|exact hb05|exact hb06|refine qab ?_ _|refine qac ?_)):p:=h
theorem p_{p:Prop} (h:p:=by rfl):p:=h
theorem q_{p:Prop} (h:p:=by rw[←HW0.out];exact(bR_ _ _).alloc (nr_ _) _):p:=h
theorem r_{p:Prop} (h:p:=by rw[←HW0.out];exact((bR_ _ _).alloc (nr_ _) _).alloc (by simp) _):p:=h
theorem s_{p:Prop} (h:p:=by unfold maxLen;omega):p:=h
theorem t_{p:Prop} (h:p:=by go_num):p:=h
theorem v_{p:Prop} (h:p:=by rw[HR.out] <;> rfl):p:=h
theorem y_{p:Prop} (h:p:=by rw[←HW1.out,World.cell?_setCell_other _ _ _ _ (by simp)];exact hb0.cell (p:=⟨q,1,none⟩) hq):p:=h
theorem z_{p:Prop} (h:p:=by repeat(first|exact bR_ _ _|refine Below.setCell ?_ (nr_ _) _|refine Below.alloc ?_ (nr_ _) _)):p:=h
theorem qaV(n a b:Int)(w:World):
 gS 124 #[.int .i64 n,.int .i64 a,.int .i64 b] w (.bool (inB n a b)):=by
 go_enter Tryz.func124,Tryz.ntmps124
 go_wp2
 all_goals(go_ret;exact⟨qaM (by unfold inB;simp <;> omega),rfl⟩)
theorem qaO(n a b:Int)(w:World):
 gS 113 #[.int .i64 n,.int .i64 a,.int .i64 b] w (.bool (inB n a b)):=by
 go_enter Tryz.func113,Tryz.ntmps113
 go_wp2
 all_goals(go_ret;exact⟨qaM (by unfold inB;simp <;> omega),rfl⟩)
theorem qbF(n:Int)(w:World):
 gS 201 #[.int .i64 n] w (.bool (dig n)):=by
 go_enter Tryz.func201,Tryz.ntmps201
 go_wp2_with (go_at_call 124;refine(qaV _ _ _ _).mono ?_;rintro e w' ⟨rfl,rfl⟩)
 go_ret;exact⟨rfl,rfl⟩
theorem qbX(n:Int)(w:World):
 gS 217 #[.int .i64 n] w (.bool (dig n)):=by
 go_enter Tryz.func217,Tryz.ntmps217
 go_wp2_with (go_at_call 113;refine(qaO _ _ _ _).mono ?_;rintro e w' ⟨rfl,rfl⟩)
 go_ret;exact⟨rfl,rfl⟩
theorem qfZ(n:Int)(w:World):
 gS 123 #[.int .i64 n] w (.bool (key n)):=by
 go_enter Tryz.func123,Tryz.ntmps123
 go_wp2_with (go_at_call 124;refine(qaV _ _ _ _).mono ?_;rintro e w' ⟨rfl,rfl⟩)
 go_ret;exact⟨rfl,rfl⟩
theorem qfX(n:Int)(w:World):
 gS 149 #[.int .i64 n] w (.bool (key n)):=by
 go_enter Tryz.func149,Tryz.ntmps149
 go_wp2_with (go_at_call 113;refine(qaO _ _ _ _).mono ?_;rintro e w' ⟨rfl,rfl⟩)
 go_ret;exact⟨rfl,rfl⟩

theorem qe7(s:ByteArray)(w:World)(hs:s.size≤maxLen):
 gS 132 #[.string s] w (.int .i64 (qbi s.data.toList)):=by
 unfold maxLen at hs;go_enter Tryz.func132,Tryz.ntmps132
 go_wp2
 go_loop [3,4] (fun n i=>∃ k:Nat,k≤s.size∧i=.int .i64 k∧n=.int .i64 (qbi (s.data.toList.take k))) (fun _ i=>s.size-(intOf i).toNat)
 case atStart=>exact⟨0,Nat.zero_le _,rfl,rfl⟩
 case round=>
  obtain⟨k,hk,rfl,rfl⟩:=hrel;have hd:=qhH (s.data.toList.take k);by_cases hlt:k<s.size
  · have hb:(s[k].toNat:Int)<256:=by have:=s[k].toNat_lt;omega
    have HS:=hI_ (qfc (s.data.toList.take k) s[k]);have HT:=hI_ (qiN hlt);generalize qbi (s.data.toList.take k)=t at*
    go_wp2
    go_round
    case rel=>exact⟨k+1,a_,t_,by rw[HT.out,HS.out]⟩
    case measure=>simp[intOf];omega
  · go_wp2
    go_ret;exact⟨qfp (by rw[List.take_of_length_le n_]),rfl⟩
theorem qdt(s:ByteArray)(w:World)(hs:s.size≤8):
 gS 28 #[.string s] w (.int .i64 (qbi s.data.toList)):=by
 go_enter Tryz.func28,Tryz.ntmps28
 go_wp2
 go_loop [3,4] (fun n i=>∃ k:Nat,k≤s.size∧i=.int .i64 k∧n=.int .i64 (qbi (s.data.toList.take k))) (fun _ i=>s.size-(intOf i).toNat)
 case atStart=>exact⟨0,Nat.zero_le _,rfl,rfl⟩
 case round=>
  obtain⟨k,hk,rfl,rfl⟩:=hrel;have hd:=qhH (s.data.toList.take k);by_cases hlt:k<s.size
  · have hb:(s[k].toNat:Int)<256:=by have:=s[k].toNat_lt;omega
    have HS:=hI_ (qfc (s.data.toList.take k) s[k]);have HT:=hI_ (qiN hlt);generalize qbi (s.data.toList.take k)=t at*
    go_wp2
    go_round
    case rel=>exact⟨k+1,a_,t_,by rw[HT.out,HS.out]⟩
    case measure=>simp[intOf];omega
  · go_wp2
    go_ret;exact⟨qfp (by rw[List.take_of_length_le n_]),rfl⟩
theorem qcn(a b:Int)(w:World)(ha:dig a=true)(hb:dig b=true):
 gS 256 #[.int .i64 a,.int .i64 b] w (.int .i64 (qbo a b)):=by
 have ⟨ha0,ha1⟩:=qa4.1 ha;clear ha;have ⟨hb0,hb1⟩:=qa4.1 hb;clear hb;go_enter Tryz.func256,Tryz.ntmps256
 go_wp2
 go_ret;exact⟨qfp (by unfold qbo;omega),rfl⟩
theorem qbf(a b:Int)(w:World)(ha:dig a=true)(hb:dig b=true):
 gS 260 #[.int .i64 a,.int .i64 b] w (.int .i64 (qbo a b)):=by
 have ⟨ha0,ha1⟩:=qa4.1 ha;have ⟨hb0,hb1⟩:=qa4.1 hb;go_enter Tryz.func260,Tryz.ntmps260
 go_wp2_with (go_at_call 217;refine(qbX _ _).mono ?_;rintro e w' ⟨rfl,rfl⟩)
 go_ret;exact⟨qfp (by unfold qbo;omega),rfl⟩
theorem qhv(a b:Int)(w:World)(ha:dig a=true)(hb:dig b=true):
 gS 202 #[.int .i64 a,.int .i64 b] w (.int .i64 (qbo a b+1)):=by
 have ⟨hp0,hp1⟩:=qdW a b;go_enter Tryz.func202,Tryz.ntmps202
 go_wp2_with (go_at_call 256;refine(qcn _ _ _ ha hb).mono ?_;rintro e w' ⟨rfl,rfl⟩)
 go_ret;exact⟨rfl,rfl⟩
theorem qhQ(s:Int)(w:World):
 gS 154 #[.int .i64 s] w (.int .i64 (if key s then s*5%997 else 0)):=by
 cases hk:key s
 · go_enter Tryz.func154,Tryz.ntmps154
   go_wp2_with (go_at_call 149;refine(qfX _ _).mono ?_;rintro e w' ⟨rfl,rfl⟩)
   go_ret;exact⟨rfl,rfl⟩
 · have ⟨h0,h1⟩:=qcd.1 hk;go_enter Tryz.func154,Tryz.ntmps154
   go_wp2_with (go_at_call 149;refine(qfX _ _).mono ?_;rintro e w' ⟨rfl,rfl⟩)
   go_ret;exact⟨rfl,rfl⟩
theorem qhR(s:Int)(w:World):
 gS 126 #[.int .i64 s] w (.int .i64 (if key s then s*5%997 else 0)):=by
 cases hk:key s
 · go_enter Tryz.func126,Tryz.ntmps126
   go_wp2_with (go_at_call 123;refine(qfZ _ _).mono ?_;rintro e w' ⟨rfl,rfl⟩)
   go_ret;exact⟨rfl,rfl⟩
 · have ⟨h0,h1⟩:=qcd.1 hk;go_enter Tryz.func126,Tryz.ntmps126
   go_wp2_with (go_at_call 123;refine(qfZ _ _).mono ?_;rintro e w' ⟨rfl,rfl⟩)
   go_ret;exact⟨rfl,rfl⟩
end Go.Proofs.YtekaaekpdebloaaGreatDoor

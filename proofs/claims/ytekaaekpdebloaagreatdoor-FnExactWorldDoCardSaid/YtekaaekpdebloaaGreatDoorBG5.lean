/- Words and walks of the law. -/
import Derived.Test.YtekaaekpdebloaaGreatDoorBF5
import Derived.Laws.BytesString
import Derived.Deep.RegionLaw
set_option linter.unusedVariables false
set_option linter.unusedSimpArgs false
set_option maxHeartbeats 12800000
set_option maxRecDepth 100000
namespace Go.Proofs.YtekaaekpdebloaaGreatDoor
open Go.RowKit

structure qaK (B:Nat) (w:World) (f:Fd) (vb vh:Value):Prop where
 bl:O1 Value.string B 9 w vb f.bl
 hv:O1 Value.bool B 4 w vh f.hv
theorem qaK.r{B:Nat}{w:World}{f:Fd}{vb vh:Value}(h:qaK B w f vb vh):qaU w f vb vh:=⟨h.bl.r1,h.hv.r1⟩
theorem qaK.below{B:Nat}{w w':World}{f:Fd}{vb vh:Value}(h:qaK B w f vb vh)(hb:bB w w'):qaK B w' f vb vh:=⟨h.bl.below hb,h.hv.below hb⟩
theorem qaK.mono{B B':Nat}{w:World}{f:Fd}{vb vh:Value}(h:qaK B w f vb vh)(hB:B'≤B):qaK B' w f vb vh:=⟨h.bl.mono hB,h.hv.mono hB⟩
theorem qmC(W:World)(x:Int):(convert 22 9 (.slice (some ⟨W.heap.size,0,none⟩) 1 1)).run Tryz.prog (W.alloc (.cells #[.int .u8 x] 5))=.ok (.string ⟨[UInt8.ofNat x.toNat].toArray⟩) (W.alloc (.cells #[.int .u8 x] 5)):=by
 rw[run_convert_bytes_arg _ 22 5 Tryz.underlying22 Tryz.underlying5 W.heap.size 0 1 1 [x] rfl (fun i hi=>by
  obtain rfl:i=0:=a_;exact cell_of_row _ _ 0 _ _ _ (heap_alloc_new W _)) _ Tryz.underlying9]
 rfl

theorem O1.form{α:Type}{enc:α→Value}{B:Nat}{e:TypeId}{w:World}{v:Value}{l:List α}(h:O1 enc B e w v l)(hl:0<l.length):
 ∃ g cap,v=.slice (some ⟨g,0,none⟩) l.length cap∧B≤g∧g<w.heap.size:=by
 rcases h.2 with⟨_,h0⟩|⟨g,cap,cur,hv,hg,hh,_⟩
 · omega
 · exact⟨g,cap,hv,hg,(Array.getElem?_eq_some_iff.1 hh).1⟩
theorem O1.at_{α:Type}{enc:α→Value}{B:Nat}{e:TypeId}{w:World}{g n cap:Nat}{l:List α}(h:O1 enc B e w (.slice (some ⟨g,0,none⟩) n cap) l){j:Nat}(hj:j<l.length):
 w.cell? ⟨g,j,none⟩=some (enc l[j])∧w.frozen? ⟨g,j,none⟩=false:=by
 obtain⟨h1,h2⟩:=h;rcases h2 with⟨hv,_⟩|⟨g',cap',cur,hv,hg,hh,hn,hc,hs,ht⟩
 · cases hv
 · cases hv
   refine⟨?_,by simp[World.frozen?,hh]⟩;rw[cell_of_row w g j cur e (0,0) hh];have h3:(l.map enc)[j]? =some (enc l[j]):=by simp[hj]
   rw[←ht,List.getElem?_take] at h3;split at h3
   · simpa using h3
   · cases h3
theorem O1.setAt{α:Type}{enc:α→Value}{B:Nat}{e:TypeId}{w:World}{g n cap:Nat}{l:List α}(h:O1 enc B e w (.slice (some ⟨g,0,none⟩) n cap) l){j:Nat}(hj:j<l.length)(x:α):
 O1 enc B e (w.setCell ⟨g,j,none⟩ (enc x)) (.slice (some ⟨g,0,none⟩) n cap) (l.set j x)∧w.grownBy (w.setCell ⟨g,j,none⟩ (enc x)) (some g):=by
 refine⟨?_,⟨rfl,rfl,rfl,a0_,fun k _ hk=>Below.heap_setCell w ⟨g,j,none⟩ _ k (fun e=>hk (by rw[e]))⟩⟩;obtain⟨h1,h2⟩:=h;rcases h2 with⟨hv,_⟩|⟨g',cap',cur,hv,hg,hh,hn,hc,hs,ht⟩
 · cases hv
 · injection hv with e1 e2 e3
   injection e1 with e1
   injection e1 with e1 _ _
   subst e1 e2 e3;refine⟨k_,.inr ⟨g,cap,cur.setIfInBounds j (enc x),k_,hg,?_,aY_,hc,by simpa using hs,?_⟩⟩
   · simp[World.setCell,Array.getElem?_modify,hh]
   · simp only[Nat.mul_one,List.length_set] at ht ⊢;rw[Array.toList_setIfInBounds,List.take_set,ht,List.map_set]
theorem qat{a b c:World}{row:Option Nat}(h:a.grownBy b row)(k:b.grownBy c row):a.grownBy c row:=
 ⟨k.os.trans h.os,k.tape.trans h.tape,k.output.trans h.output,Nat.le_trans h.size k.size,fun i hi hne=>(k.block i (nL_ hi h.size) hne).trans (h.block i hi hne)⟩
theorem qaP{a b:World}{row:Option Nat}(h:bB a b):a.grownBy b row:=⟨h.os,h.tape,h.output,h.size,fun i hi _=>h.block i hi⟩
theorem qii(a:World)(row:Option Nat):a.grownBy a row:=⟨rfl,rfl,rfl,nr_ _,fun _ _ _=>rfl⟩

theorem O1.sl{α:Type}{enc:α→Value}{B:Nat}{e:TypeId}{w:World}{v:Value}{l:List α}(h:O1 enc B e w v l):∃ A c,v=.slice A l.length c:=by
 obtain⟨A,c,h,_⟩:=h.r1;exact⟨A,c,h⟩
theorem qle{α:Type}{enc:α→Value}{P:Program}{ops:Array Oper}{rest:List Oper}{o:Oper}{a:Act}{Q:Exit→Act→World→Prop}{w:World}(t e bytes:Nat)(i:TypeInfo)(z:Value)
 (ht:P.underlying t=some (.slice e)) (hi:P.info? e=some i) (hz:i.zero=some z) (hsize:i.size=1) (hby:i.bytes=bytes) (hzs:z.cells.size=1) (hb100:bytes≤1000)
 {base:Nat} {v:Value} {l:List α} (hown:O1 enc base e w v l) (hn:l.length≤100000000000) (hbase:base≤w.heap.size) {y:α} (h1:(enc y).oneCell'=true)
 (hgd:o.guard=none) {s x:Operand} (ho:o.op=.call {callee:=.builtin .append,args:= #[s,x],argTypes:= #[t,t]})
 (hs:a.eval s=v) (hx:a.eval x=.slice (some ⟨w.heap.size,0,none⟩) 1 1)
 (h:∀ v' w',O1 enc base e w' v' (l++[y])→w.grownBy w' v.ownBlock→wpList P ops Q rest (a.put o.dst v') w'):wpList P ops Q (o::rest) a (w.alloc (.cells #[enc y] e)):=by
 have hbd:(l.length+1)*bytes≤100000000001*1000:=Nat.mul_le_mul a_ hb100;refine wpList_append_own _ hgd s x t ho base e i z 1 bytes ht hi hz hsize hby hzs a_ v l.length _ hs
  (hown.alloc _) ⟨w.heap.size,0,none⟩ 1 1 [enc y] hx k_ (fun j u hu=> ?_) bd_ s_ a_ n_ ?_
 · have hadd:(⟨w.heap.size,0,none⟩:Addr).add j=⟨w.heap.size,j,none⟩:=by unfold Addr.add;split <;> simp_all
   rw[hadd,cell_of_row _ w.heap.size j _ e (0,0) (heap_alloc_new w _)];simpa using hu
 · intro v' w' h2 h3 _;exact h v' w' (by unfold O1;simpa using h2) (qat (qaP ((bR_ _ _).alloc (nr_ _) _)) h3)
section
variable {ops:Array Oper} {rest:List Oper} {o:Oper} {a:Act} {Q:Exit→Act→World→Prop} {w:World} {base:Nat} {v:Value}
theorem qlf{l:List ByteArray}(hown:O1 Value.string base 9 w v l)(hn:l.length≤100000000000)(hbase:base≤w.heap.size){y:ByteArray}(hgd:o.guard=none){s x:Operand}
 (ho:o.op=.call {callee:=.builtin .append,args:= #[s,x],argTypes:= #[47,47]}) (hs:a.eval s=v) (hx:a.eval x=.slice (some ⟨w.heap.size,0,none⟩) 1 1)
 (h:∀ v' w',O1 Value.string base 9 w' v' (l++[y])→w.grownBy w' v.ownBlock→wpList Tryz.prog ops Q rest (a.put o.dst v') w'):wpList Tryz.prog ops Q (o::rest) a (w.alloc (.cells #[.string y] 9)):=by
 obtain⟨i0,hi,hz0,hz1,hz2⟩:=info_parts qfy;exact qle 47 9 16 i0 _ Tryz.underlying47 hi hz0 hz1 hz2 rfl a_ hown hn hbase rfl hgd ho hs hx h
theorem qjL{l:List Bool}(hown:O1 Value.bool base 4 w v l)(hn:l.length≤100000000000)(hbase:base≤w.heap.size){y:Bool}(hgd:o.guard=none){s x:Operand}
 (ho:o.op=.call {callee:=.builtin .append,args:= #[s,x],argTypes:= #[48,48]}) (hs:a.eval s=v) (hx:a.eval x=.slice (some ⟨w.heap.size,0,none⟩) 1 1)
 (h:∀ v' w',O1 Value.bool base 4 w' v' (l++[y])→w.grownBy w' v.ownBlock→wpList Tryz.prog ops Q rest (a.put o.dst v') w'):wpList Tryz.prog ops Q (o::rest) a (w.alloc (.cells #[.bool y] 4)):=by
 obtain⟨i0,hi,hz0,hz1,hz2⟩:=info_parts qeM;exact qle 48 4 1 i0 _ Tryz.underlying48 hi hz0 hz1 hz2 rfl a_ hown hn hbase rfl hgd ho hs hx h
theorem qjN{l l2:List ByteArray}{x:Value}(hown:O1 Value.string base 9 w v l)(hr:RS w x l2)(hn:l.length+l2.length≤100000000000)(hbase:base≤w.heap.size)
 (hgd:o.guard=none) {s y:Operand} (ho:o.op=.call {callee:=.builtin .append,args:= #[s,y],argTypes:= #[47,47]}) (hs:a.eval s=v) (hx:a.eval y=x)
 (h:∀ v' w',O1 Value.string base 9 w' v' (l++l2)→Below base w w'→wpList Tryz.prog ops Q rest (a.put o.dst v') w'):wpList Tryz.prog ops Q (o::rest) a w:=by
 obtain⟨i0,hi,hz0,hz1,hz2⟩:=info_parts qfy;exact qja (fun _=>rfl) 47 9 16 i0 _ Tryz.underlying47 hi hz0 hz1 hz2 rfl a_ hown hr hn hbase hgd ho hs hx h
theorem qh0{l l2:List Bool}{x:Value}(hown:O1 Value.bool base 4 w v l)(hr:RB w x l2)(hn:l.length+l2.length≤100000000000)(hbase:base≤w.heap.size)
 (hgd:o.guard=none) {s y:Operand} (ho:o.op=.call {callee:=.builtin .append,args:= #[s,y],argTypes:= #[48,48]}) (hs:a.eval s=v) (hx:a.eval y=x)
 (h:∀ v' w',O1 Value.bool base 4 w' v' (l++l2)→Below base w w'→wpList Tryz.prog ops Q rest (a.put o.dst v') w'):wpList Tryz.prog ops Q (o::rest) a w:=by
 obtain⟨i0,hi,hz0,hz1,hz2⟩:=info_parts qeM;exact qja (fun _=>rfl) 48 4 1 i0 _ Tryz.underlying48 hi hz0 hz1 hz2 rfl a_ hown hr hn hbase hgd ho hs hx h
theorem qlZ{n:Nat}{lo co:Operand}(hgd:o.guard=none)(ho:o.op=Op.makeSlice 47 lo co)(hl:a.eval lo=.int .i64 0)(hc:a.eval co=.int .i64 (n:Int))(hn:n≤1000000000000)
 (h:∀ v' w',O1 Value.string w.heap.size 9 w' v' []→bB w w'→wpList Tryz.prog ops Q rest (a.put o.dst v') w'):wpList Tryz.prog ops Q (o::rest) a w:=by
 obtain⟨i0,hi,hz0,hz1,hz2⟩:=info_parts qfy;exact wpList_make_own w hgd lo co _ ho w.heap.size _ i0 _ 1 Tryz.underlying47 hi hz0 hz1 .i64 .i64 _ n hl hc rfl bS_ s_ (nr_ _)
  fun w' h1 h2=>h _ w' h1 ((bR_ _ _).grown h2 (nr_ _) (fun k hk=>bb_))
theorem qkP{n:Nat}{lo co:Operand}(hgd:o.guard=none)(ho:o.op=Op.makeSlice 48 lo co)(hl:a.eval lo=.int .i64 0)(hc:a.eval co=.int .i64 (n:Int))(hn:n≤1000000000000)
 (h:∀ v' w',O1 Value.bool w.heap.size 4 w' v' []→bB w w'→wpList Tryz.prog ops Q rest (a.put o.dst v') w'):wpList Tryz.prog ops Q (o::rest) a w:=by
 obtain⟨i0,hi,hz0,hz1,hz2⟩:=info_parts qeM;exact wpList_make_own w hgd lo co _ ho w.heap.size _ i0 _ 1 Tryz.underlying48 hi hz0 hz1 .i64 .i64 _ n hl hc rfl bS_ s_ (nr_ _)
  fun w' h1 h2=>h _ w' h1 ((bR_ _ _).grown h2 (nr_ _) (fun k hk=>bb_))
end
theorem qbb.grown{g:Nat}{a b c:World}{row:Option Nat}(h:qbb g a b)(k:b.grownBy c row)(hr:∀ r,row=some r→a.heap.size≤r):qbb g a c:=
 ⟨k.os.trans h.os,k.tape.trans h.tape,k.output.trans h.output,Nat.le_trans h.size k.size,fun i hi hne=>(k.block i (nL_ hi h.size) (fun e=>by have:=hr i e.symm;omega)).trans (h.block i hi hne)⟩
theorem qbb.set{g:Nat}{a b:World}(h:qbb g a b){p:Addr}(hp:a.heap.size≤p.block)(u:Value):qbb g a (b.setCell p u):=
 ⟨h.os,h.tape,h.output,by have:=h.size;simpa[World.setCell] using this,fun i hi hne=>(Below.heap_setCell _ _ _ _ a_).trans (h.block i hi hne)⟩
theorem Rdr.grown{w w':World}{g P:Nat}{row:Option Nat}(h:Rdr w g P)(hb:w.grownBy w' row)(hr:∀ r,row=some r→g<r):Rdr w' g P:=
 h.keep fun k hk=>hb.block k (by have:=h.lt;omega) (fun e=>by have:=hr k e.symm;omega)

theorem qaR(w:World)(p:Addr)(u:Value):w.grownBy (w.setCell p u) (some p.block):=⟨rfl,rfl,rfl,a0_,fun k _ hk=>Below.heap_setCell w p u k (fun e=>hk (by rw[e]))⟩
theorem O1.ne_box{α:Type}{enc:α→Value}{B q:Nat}{e t:TypeId}{w:World}{v:Value}{l:List α}{cur:Array Value}{x:Nat×Nat}(h:O1 enc B e w v l)(hq:w.heap[q]? =some (.cells cur t x))(ht:e≠t):v.ownBlock≠some q:=by
 intro he;rcases h.2 with⟨rfl,_⟩|⟨k,cap,cur2,rfl,hk,hh,r⟩
 · simp[Value.ownBlock] at he
 · simp only[Value.ownBlock,Option.some.injEq] at he;subst he;rw[hh] at hq;injection hq with hq
   injection hq with _ h3
   exact ht h3
theorem O1.setq{α:Type}{enc:α→Value}{B q:Nat}{e t:TypeId}{w:World}{v:Value}{l:List α}{cur:Array Value}{x:Nat×Nat}(h:O1 enc B e w v l)(hq:w.heap[q]? =some (.cells cur t x))(ht:e≠t)(i:Nat)(u:Value):O1 enc B e (w.setCell ⟨q,i,none⟩ u) v l:=
 h.grown (qaR w ⟨q,i,none⟩ u) (.inr (h.ne_box hq ht))
theorem qas{w:World}{q i:Nat}{cur:Array Value}{t:TypeId}(h:w.heap[q]? =some (.cells cur t (0,0)))(u:Value):(w.setCell ⟨q,i,none⟩ u).heap[q]? =some (.cells (cur.setIfInBounds i u) t (0,0)):=by
 simp[World.setCell,Array.getElem?_modify,h]

structure FB (B q:Nat) (w:World) (f:Fd) (vb vh:Value):Prop where
 box:w.heap[q]? =some (.cells #[.int .i64 f.pub,.int .i64 f.hd.len,.int .i64 f.hd.dg,.int .i64 f.hd.sg,vb,vh] 50 (0,0))
 fo:qaK B w f vb vh
section
variable {B q:Nat} {w w':World} {f:Fd} {vb vh:Value}
theorem FB.c0(h:FB B q w f vb vh):w.cell? ⟨q,0,none⟩=some (.int .i64 f.pub):=cell_of_row _ _ 0 _ _ _ h.box
theorem FB.c1(h:FB B q w f vb vh):w.cell? ⟨q,1,none⟩=some (.int .i64 f.hd.len):=cell_of_row _ _ 1 _ _ _ h.box
theorem FB.c2(h:FB B q w f vb vh):w.cell? ⟨q,2,none⟩=some (.int .i64 f.hd.dg):=cell_of_row _ _ 2 _ _ _ h.box
theorem FB.c3(h:FB B q w f vb vh):w.cell? ⟨q,3,none⟩=some (.int .i64 f.hd.sg):=cell_of_row _ _ 3 _ _ _ h.box
theorem FB.c4(h:FB B q w f vb vh):w.cell? ⟨q,4,none⟩=some vb:=cell_of_row _ _ 4 _ _ _ h.box
theorem FB.c5(h:FB B q w f vb vh):w.cell? ⟨q,5,none⟩=some vh:=cell_of_row _ _ 5 _ _ _ h.box
theorem FB.lt(h:FB B q w f vb vh):q<w.heap.size:=(Array.getElem?_eq_some_iff.1 h.box).1
theorem FB.fz(h:FB B q w f vb vh)(o:Nat):w.frozen? ⟨q,o,none⟩=false:=by simp[World.frozen?,h.box]
theorem FB.below(h:FB B q w f vb vh)(hb:bB w w'):FB B q w' f vb vh:=⟨(hb.block q h.lt).trans h.box,h.fo.below hb⟩
theorem FB.only{g:Nat}(h:FB B q w f vb vh)(hb:qbb g w w')(hB:g<B)(hq:g≠q):FB B q w' f vb vh:=
 ⟨(hb.block q h.lt (fun e=>hq (Option.some.inj e).symm)).trans h.box,⟨h.fo.bl.only hb hB,h.fo.hv.only hb hB⟩⟩
theorem FB.mono{B':Nat}(h:FB B q w f vb vh)(hB:B'≤B):FB B' q w f vb vh:=⟨h.box,h.fo.mono hB⟩
theorem FB.made(h:qaK B w f vb vh):FB B w.heap.size (w.alloc (.cells #[.int .i64 f.pub,.int .i64 f.hd.len,.int .i64 f.hd.dg,.int .i64 f.hd.sg,vb,vh] 50)) f vb vh:=
 ⟨heap_alloc_new _ _,h.below ((bR_ _ _).alloc (nr_ _) _)⟩
theorem FB.nb(h:FB B q w f vb vh):vb.ownBlock≠some q:=h.fo.bl.ne_box h.box e_
theorem FB.nh(h:FB B q w f vb vh):vh.ownBlock≠some q:=h.fo.hv.ne_box h.box e_
theorem FB.set4(h:FB B q w f vb vh){vb':Value}{bl':List ByteArray}(hg:w.grownBy w' vb.ownBlock)(ho:O1 Value.string B 9 w' vb' bl'):FB B q (w'.setCell ⟨q,4,none⟩ vb') {f with bl:=bl'} vb' vh:=by
 have hq:=(hg.block q h.lt (fun e=>h.nb e.symm)).trans h.box;have hh:=h.fo.hv.grown hg (O1.ne_ h.fo.hv h.fo.bl e_);exact⟨qas hq vb',⟨ho.setq hq e_ _ _,hh.setq hq e_ _ _⟩⟩
theorem FB.set5(h:FB B q w f vb vh){vh':Value}{hv':List Bool}(hg:w.grownBy w' vh.ownBlock)(ho:O1 Value.bool B 4 w' vh' hv'):FB B q (w'.setCell ⟨q,5,none⟩ vh') {f with hv:=hv'} vb vh':=by
 have hq:=(hg.block q h.lt (fun e=>h.nh e.symm)).trans h.box;have hh:=h.fo.bl.grown hg (O1.ne_ h.fo.bl h.fo.hv e_);exact⟨qas hq vh',⟨hh.setq hq e_ _ _,ho.setq hq e_ _ _⟩⟩
theorem FB.set1(h:FB B q w f vb vh)(n:Int):FB B q (w.setCell ⟨q,1,none⟩ (.int .i64 n)) {f with hd:={f.hd with len:=n}} vb vh:=
 ⟨qas h.box _,⟨h.fo.bl.setq h.box e_ _ _,h.fo.hv.setq h.box e_ _ _⟩⟩
theorem FB.set2(h:FB B q w f vb vh)(n:Int):FB B q (w.setCell ⟨q,2,none⟩ (.int .i64 n)) {f with hd:={f.hd with dg:=n}} vb vh:=
 ⟨qas h.box _,⟨h.fo.bl.setq h.box e_ _ _,h.fo.hv.setq h.box e_ _ _⟩⟩
theorem FB.set3(h:FB B q w f vb vh)(n:Int):FB B q (w.setCell ⟨q,3,none⟩ (.int .i64 n)) {f with hd:={f.hd with sg:=n}} vb vh:=
 ⟨qas h.box _,⟨h.fo.bl.setq h.box e_ _ _,h.fo.hv.setq h.box e_ _ _⟩⟩
end

def qbJ(s:Int)(l:List Int):Hd×Bool:=if key s&&qaE l then (⟨l.length,qbN l,s*(qbo l.length (qbN l)+1)%997⟩,true) else (Hd.zero,false)
def qd3(h:Hd)(ok:Bool)(w:World)(e:Ending)(w':World):Prop:=e=.returned (.tuple #[.agg #[.int .i64 h.len,.int .i64 h.dg,.int .i64 h.sg],.bool ok])∧bB w w'
theorem qcY{l:List Int}{b:Bool}(h:Hid (qaE l=b))(v:Value)(w:World)(hv:RI w v l):gS 203 #[v] w (.bool b):=by
 rw[←h.out];exact qco l v w hv
theorem qhb{l:List Int}{d:Int}(h:Hid (qbN l=d))(v:Value)(w:World)(hv:RI w v l):gV 129 #[v] w (.int .i64 d):=by
 rw[←h.out];exact qfh l v w hv
theorem qgj{l:List Int}(h:qaE l=true):dig (qbN l)=true:=by
 unfold qbN;rw[h];have:=(qaJ.1 h).1;exact qhm (qa4.2 a_) _
theorem qkl(s:Int)(l:List Int)(v:Value)(w:World)(hv:RI w v l):Calls Tryz.prog 133 #[.int .i64 s,v] w (qd3 (qbJ s l).1 (qbJ s l).2 w):=by
 have HV:=hI_ hv;obtain⟨A,c,rfl,n1,n2,_⟩:=hv;unfold maxLen at n2;have hbm:l.length≤9223372036854775807:=by have:=n1.1;omega
 clear n1 n2;obtain⟨b1,HK⟩:=nm_ (key s);obtain⟨b2,HL⟩:=nm_ (qaE l);have hb0:bB w (w.alloc (.cells #[.int .i64 0,.int .i64 0,.int .i64 0] 46)):=(bR_ _ _).alloc (nr_ _) _;have hr0:=HV.out.below hb0;cases b1
 · have HR:Hid (qbJ s l=(Hd.zero,false)):=hI_ (by unfold qbJ;rw[HK.out];rfl);rw[HR.out];go_enter Tryz.func133,Tryz.ntmps133
   go_wp2_with (first
    |(go_at_call 123;refine(qbS HK _).mono ?_;rintro e w' ⟨rfl,rfl⟩)
    |(go_at_call 203;refine(qcY HL _ _ hr0).mono ?_;rintro e w' ⟨rfl,rfl⟩))
   exact bodyPost_ret (v:=.tuple #[.agg #[.int .i64 0,.int .i64 0,.int .i64 0],.bool false]) (by simp[results,Tryz.results133,go_sem]) rfl ⟨rfl,by repeat(first|exact hb0|exact bR_ _ _|refine Below.setCell ?_ (nr_ _) _|refine Below.alloc ?_ (nr_ _) _)⟩
 cases b2
 · have HR:Hid (qbJ s l=(Hd.zero,false)):=hI_ aE_;rw[HR.out];go_enter Tryz.func133,Tryz.ntmps133
   go_wp2_with (first
    |(go_at_call 123;refine(qbS HK _).mono ?_;rintro e w' ⟨rfl,rfl⟩)
    |(go_at_call 203;refine(qcY HL _ _ hr0).mono ?_;rintro e w' ⟨rfl,rfl⟩))
   exact bodyPost_ret (v:=.tuple #[.agg #[.int .i64 0,.int .i64 0,.int .i64 0],.bool false]) (by simp[results,Tryz.results133,go_sem]) rfl ⟨rfl,by repeat(first|exact hb0|exact bR_ _ _|refine Below.setCell ?_ (nr_ _) _|refine Below.alloc ?_ (nr_ _) _)⟩
 · have HR:Hid (qbJ s l=(⟨l.length,qbN l,s*(qbo l.length (qbN l)+1)%997⟩,true)):=hI_ aE_;rw[HR.out];obtain⟨s1,s2⟩:=qcd.1 HK.out;have hl16:=(qaJ.1 HL.out).1;have hd1:dig (l.length:Int)=true:=qa4.2 a_;have hd2:=qgj HL.out;have hp:=qdW l.length (qbN l);obtain⟨d,HD⟩:=nm_ (qbN l);obtain⟨m,HM⟩:=nm_ (qbo l.length d+1);rw[HD.out] at hd2 hp;rw[HD.out];show Calls _ _ _ _ (qd3 ⟨l.length,d,s*(qbo l.length d+1)%997⟩ true w);rw[HM.out];have hm1:1≤m∧m≤991:=by have:=HM.out;omega
   have hsm:0≤s*m∧s*m≤996*991:=⟨Int.mul_nonneg a_ a_,Int.mul_le_mul a_ a_ a_ a_⟩
   clear hp;go_enter Tryz.func133,Tryz.ntmps133
   go_wp2_with (first
    |(go_at_call 123;refine(qbS HK _).mono ?_;rintro e w' ⟨rfl,rfl⟩)
    |(go_at_call 203;refine(qcY HL _ _ hr0).mono ?_;rintro e w' ⟨rfl,rfl⟩)
    |(go_at_call 129;refine(qhb HD _ _ hr0).mono ?_;rintro e w1 ⟨rfl,hb1⟩;have hcc:=qeY hb1;have hs1:=hb1.size;simp at hs1;have hs2:w.heap.size<w1.heap.size:=by omega)
    |(go_at_call 202;refine(qev HM _ hd1 hd2).mono ?_;rintro e w' ⟨rfl,rfl⟩))
   refine bodyPost_ret (v:=.tuple #[.agg #[.int .i64 l.length,.int .i64 d,.int .i64 (s*m%997)],.bool true]) (by simp[results,Tryz.results133,go_sem,hcc]) rfl ⟨rfl,?_⟩;have hb01:=hb0.trans (hb1.mono k_);exact(((hb01.setCell (nr_ _) _).setCell (nr_ _) _).setCell (nr_ _) _)
theorem qfD{s:Int}{l:List Int}{h:Hd}{ok:Bool}(hh:Hid (qbJ s l=(h,ok)))(v:Value)(w:World)(hv:RI w v l):Calls Tryz.prog 133 #[.int .i64 s,v] w (qd3 h ok w):=by
 have:=qkl s l v w hv;rw[hh.out] at this;exact this
def qhr(s:Int):Int:=if key s then s*5%997 else 0
def qnk(p:Int):Fd:=⟨if key p then p else 0,Hd.zero,[],[]⟩
def qi2(p:Int)(w:World)(e:Ending)(w':World):Prop:=
 ∃ ub uh,e=.returned (.tuple #[.agg #[.int .i64 (qnk p).pub,.int .i64 0,.int .i64 0,.int .i64 0,ub,uh],.bool (key p)])∧qaK w.heap.size w' (qnk p) ub uh∧bB w w'
theorem O1.made'{α:Type}{enc:α→Value}{e:TypeId}{S:World}{n:Nat}(hn:S.heap.size=n):O1 enc n e (S.alloc (.cells #[] e)) (.slice (some ⟨n,0,none⟩) 0 0) []:=by subst hn;exact O1.made enc S e
theorem O1.setb{α:Type}{enc:α→Value}{B:Nat}{e:TypeId}{w:World}{v:Value}{l:List α}(h:O1 enc B e w v l){p:Addr}(hp:p.block<B)(u:Value):O1 enc B e (w.setCell p u) v l:=
 h.grown (qaR w p u) (.inr (fun e=>by have:=(h.lt _ e).1;omega))
theorem qae{B q:Nat}{a w:World}(h:Below B a w)(hq:B≤q)(x0 x1 x2 x3 x4 x5:Value):Below B a ((((((w.setCell ⟨q,0,none⟩ x0).setCell ⟨q,1,none⟩ x1).setCell ⟨q,2,none⟩ x2).setCell ⟨q,3,none⟩ x3).setCell ⟨q,4,none⟩ x4).setCell ⟨q,5,none⟩ x5):=
 (((((h.setCell hq _).setCell hq _).setCell hq _).setCell hq _).setCell hq _).setCell hq _
theorem qaK.set6{B q:Nat}{w:World}{f:Fd}{vb vh:Value}(h:qaK B w f vb vh)(hq:q<B)(x0 x1 x2 x3 x4 x5:Value):qaK B ((((((w.setCell ⟨q,0,none⟩ x0).setCell ⟨q,1,none⟩ x1).setCell ⟨q,2,none⟩ x2).setCell ⟨q,3,none⟩ x3).setCell ⟨q,4,none⟩ x4).setCell ⟨q,5,none⟩ x5) f vb vh:=
 ⟨(((((h.bl.setb hq _).setb hq _).setb hq _).setb hq _).setb hq _).setb hq _,(((((h.hv.setb hq _).setb hq _).setb hq _).setb hq _).setb hq _).setb hq _⟩
theorem qk4(p:Int)(w:World):Calls Tryz.prog 125 #[.int .i64 p] w (qi2 p w):=by
 obtain⟨b1,HK⟩:=nm_ (key p);cases b1
 · have HF:Hid ((qnk p).pub=0):=hI_ (by unfold qnk;rw[HK.out];rfl);unfold qi2;rw[HF.out,HK.out];go_enter Tryz.func125,Tryz.ntmps125
   go_wp2_with (go_at_call 123;refine(qbS HK _).mono ?_;rintro e w' ⟨rfl,rfl⟩)
   exact bodyPost_ret (v:=.tuple #[.agg #[.int .i64 0,.int .i64 0,.int .i64 0,.int .i64 0,.slice none 0 0,.slice none 0 0],.bool false]) (by simp[results,Tryz.results125,go_sem]) rfl
    ⟨_,_,rfl,⟨O1.nil _ _ _ _,O1.nil _ _ _ _⟩,z_⟩
 · have HF:Hid ((qnk p).pub=p):=hI_ (by unfold qnk;rw[HK.out];rfl);unfold qi2;rw[HF.out,HK.out];go_enter Tryz.func125,Tryz.ntmps125
   go_wp2_with (first
    |(go_at_call 123;refine(qbS HK _).mono ?_;rintro e w' ⟨rfl,rfl⟩)
    |(go_at_call 127;refine(qcm _).mono ?_;rintro e w1 ⟨rfl,hb1⟩;have hcc:=qeY hb1;have hs1:=hb1.size;simp at hs1;have hs2:w.heap.size<w1.heap.size:=by omega))
   have hb01:bB w w1:=((bR_ w.heap.size w).alloc (nr_ _) _).trans (hb1.mono k_);refine bodyPost_ret (v:=.tuple #[.agg #[.int .i64 p,.int .i64 0,.int .i64 0,.int .i64 0,.slice (some ⟨w1.heap.size,0,none⟩) 0 0,.slice (some ⟨w1.heap.size+1,0,none⟩) 0 0],.bool true]) (by simp[results,Tryz.results125,go_sem,hs2,hcc]) rfl ⟨_,_,rfl,⟨?_,?_⟩,?_⟩
   · exact(((O1.made' k_).alloc _).mono (B:=w1.heap.size) a_)
   · exact((O1.made' k_).mono (B:=w1.heap.size+1) a_)
   · refine Below.alloc (Below.alloc ?_ n_ _) n_ _;exact qae hb01 (nr_ _) _ _ _ _ _ _

theorem qah{B:Nat}{a b:World}(h:Below B a b):Below B a b.drew:=h.drew
theorem O1.sl2{α:Type}{enc:α→Value}{B:Nat}{e:TypeId}{w:World}{v:Value}{l:List α}(h:O1 enc B e w v l):∃ A n c,v=.slice A n c∧Hid (n=l.length):=by
 obtain⟨A,c,h⟩:=h.sl;exact⟨A,_,c,h,hI_ rfl⟩
theorem qcs{s p:Int}(h:Hid (qhr s=p))(w:World):gS 126 #[.int .i64 s] w (.int .i64 p):=by
 rw[←h.out];exact qhR s w
theorem Rdr.set{w:World}{g P:Nat}(h:Rdr w g P){p:Addr}(hp:g<p.block)(u:Value):Rdr (w.setCell p u) g P:=h.keep fun k hk=>Below.heap_setCell w p u k a_
theorem qaa{w:World}{p:Nat}{t:TypeId}{x0 x1 x2 x3 x4 x5:Value}(h:w.heap[p]? =some (.cells #[x0,x1,x2,x3,x4,x5] t (0,0))):
 w.cell? ⟨p,0,none⟩=some x0∧w.cell? ⟨p,1,none⟩=some x1∧w.cell? ⟨p,2,none⟩=some x2∧w.cell? ⟨p,3,none⟩=some x3∧w.cell? ⟨p,4,none⟩=some x4∧w.cell? ⟨p,5,none⟩=some x5∧∀ i,w.frozen? ⟨p,i,none⟩=false:=
 ⟨cell_of_row _ _ 0 _ _ _ h,cell_of_row _ _ 1 _ _ _ h,cell_of_row _ _ 2 _ _ _ h,cell_of_row _ _ 3 _ _ _ h,cell_of_row _ _ 4 _ _ _ h,cell_of_row _ _ 5 _ _ _ h,fun i=>am_⟩
def qjH(f:Fd)(w:World)(e:Ending)(w':World):Prop:=
 ∃ ub uh,e=.returned (.agg #[.int .i64 f.pub,.int .i64 f.hd.len,.int .i64 f.hd.dg,.int .i64 f.hd.sg,ub,uh])∧qaK w.heap.size w' f ub uh∧bB w w'
theorem qc1(f:Fd)(vb vh:Value)(w:World)(hf:qaU w f vb vh)(h1:f.bl.length≤1000000)(h2:f.hv.length≤1000000):
 Calls Tryz.prog 116 #[.agg #[.int .i64 f.pub,.int .i64 f.hd.len,.int .i64 f.hd.dg,.int .i64 f.hd.sg,vb,vh]] w (qjH f w):=by
 obtain⟨W0,HW0⟩:=nm_ ((w.alloc (.cells #[.int .i64 f.pub,.int .i64 f.hd.len,.int .i64 f.hd.dg,.int .i64 f.hd.sg,vb,vh] 50)).alloc (.cells #[.int .i64 0,.int .i64 0,.int .i64 0,.int .i64 0,.slice none 0 0,.slice none 0 0] 50));have HB0:Hid (bB w W0):=hI_ r_;have hs0:w.heap.size+2=W0.heap.size:=by rw[←HW0.out];simp
 have hp0:W0.heap[w.heap.size]? =some (.cells #[.int .i64 f.pub,.int .i64 f.hd.len,.int .i64 f.hd.dg,.int .i64 f.hd.sg,vb,vh] 50 (0,0)):=by
  rw[←HW0.out];exact(((bR_ (w.heap.size+1) _).alloc k_ _).block w.heap.size a_).trans (heap_alloc_new w _)
 have hz0:W0.heap[w.heap.size+1]? =some (.cells #[.int .i64 0,.int .i64 0,.int .i64 0,.int .i64 0,.slice none 0 0,.slice none 0 0] 50 (0,0)):=by
  rw[←HW0.out];have:=heap_alloc_new (w.alloc (.cells #[.int .i64 f.pub,.int .i64 f.hd.len,.int .i64 f.hd.dg,.int .i64 f.hd.sg,vb,vh] 50)) (.cells #[.int .i64 0,.int .i64 0,.int .i64 0,.int .i64 0,.slice none 0 0,.slice none 0 0] 50);simpa using this
 have HP0:=hI_ hp0;have HZ0:=hI_ hz0;have HBA:=hI_ ((bR_ W0.heap.size W0).alloc (nr_ _) (.cells #[] 9));have HRB:=hI_ ((hf.bl.below HB0.out).below HBA.out);have HRV:=hI_ hf.hv;have HM0:=hI_ (O1.made Value.string W0 9);obtain⟨A,c,rfl,_,_,_⟩:=hf.bl;obtain⟨B,d,rfl,_,_,_⟩:=hf.hv;clear hp0 hz0 hf;have hl0:w.heap.size<W0.heap.size:=a_;have hl1:w.heap.size+1<W0.heap.size:=a_;go_enter Tryz.func116,Tryz.ntmps116
 go_wp2_with (first
  |(at_builtin;rw[HW0.out];refine qjN HM0.out HRB.out n_ k_ rfl rfl rfl rfl ?_;intro v5 w5 ho5 hb5;obtain⟨tA,tn,tc,rfl,ht5⟩:=ho5.sl2
    have hb05:=HBA.out.trans hb5;have hp5:=(hb05.block _ hl0).trans HP0.out;have hz5:=(hb05.block _ hl1).trans HZ0.out;obtain⟨p0,p1,p2,p3,p4,p5,pf⟩:=qaa hp5;have l5:w.heap.size<w5.heap.size:=nL_ hl0 hb05.size;have l51:w.heap.size+1<w5.heap.size:=nL_ hl1 hb05.size;obtain⟨W1,HW1⟩:=nm_ (w5.setCell ⟨w.heap.size,4,none⟩ (.slice tA tn tc));have hb1:=(HB0.out.trans (hb05.mono (Nat.le_of_lt hl0))).setCell (p:=⟨w.heap.size,4,none⟩) (nr_ _) (.slice tA tn tc);have hp1:(w5.setCell ⟨w.heap.size,4,none⟩ (.slice tA tn tc)).heap[w.heap.size]? =some (.cells #[.int .i64 f.pub,.int .i64 f.hd.len,.int .i64 f.hd.dg,.int .i64 f.hd.sg,.slice tA tn tc,.slice B f.hv.length d] 50 (0,0)):=qas (i:=4) hp5 _;have hz1:=(Below.heap_setCell w5 ⟨w.heap.size,4,none⟩ (.slice tA tn tc) (w.heap.size+1) k_).trans hz5;have ho1:=ho5.setb (p:=⟨w.heap.size,4,none⟩) hl0 (.slice tA tn tc);have hl10:W0.heap.size≤w5.heap.size:=hb05.size;rw[HW1.out] at hb1 hp1 hz1 ho1;have HB1:=hI_ hb1;have HP1:=hI_ hp1;have HZ1:=hI_ hz1;have HO1:=hI_ ho1;have HR1:=hI_ ((HRV.out.below hb1).alloc (.cells #[] 4));have hs15:W1.heap.size=w5.heap.size:=by rw[←HW1.out];simp
    have HM1:=hI_ (O1.made' (enc:=Value.bool) (e:=4) hs15);have HS15:=hI_ hs15;clear hs15;clear hb1 hp1 hz1 ho1;clear hp5 hz5 hb05 hb5 ho5)
  |(at_builtin;rw[HW1.out];refine qh0 HM1.out HR1.out n_ (by rw[←HS15.out];simp) rfl rfl rfl rfl ?_;intro v6 w6 ho6 hb6;obtain⟨sA,sn,sc,rfl,hs6⟩:=ho6.sl2
    have hb16:Below w5.heap.size W1 w6:=((bR_ w5.heap.size W1).alloc (Nat.le_of_eq HS15.out.symm) _).trans hb6;have hp6:=(hb16.block _ l5).trans HP1.out;have hz6:=(hb16.block _ l51).trans HZ1.out;obtain⟨q0,q1,q2,q3,q4,q5,qf⟩:=qaa hp6;have l6:w.heap.size<w6.heap.size:=nL_ l5 (Nat.le_trans (Nat.le_of_eq HS15.out.symm) hb16.size);have l61:w.heap.size+1<w6.heap.size:=nL_ l51 (Nat.le_trans (Nat.le_of_eq HS15.out.symm) hb16.size);obtain⟨r0,r1,r2,r3,r4,r5,rf⟩:=qaa hz6;have HB6:=hI_ hb16;have HO6:=hI_ ho6;clear hp6 hz6 hb6 hb16 ho6))
 refine bodyPost_ret (v:=.agg #[.int .i64 f.pub,.int .i64 f.hd.len,.int .i64 f.hd.dg,.int .i64 f.hd.sg,.slice tA tn tc,.slice sA sn sc]) (by simp[results,Tryz.results116,go_sem,r0,r1,r2,r3,r4,r5]) rfl ⟨_,_,rfl,?_,?_⟩
 · have hfo:qaK W0.heap.size w6 f (.slice tA tn tc) (.slice sA sn sc):=⟨HO1.out.below (by rw[HS15.out];exact HB6.out),HO6.out.mono hl10⟩
   exact(qaK.set6 ⟨hfo.bl.setb hl0 _,hfo.hv.setb hl0 _⟩ hl1 _ _ _ _ _ _).mono (Nat.le_of_lt hl0)
 · exact qae ((HB1.out.trans (HB6.out.mono (Nat.le_of_lt l5))).setCell (nr_ _) _) (Nat.le_succ _) _ _ _ _ _ _
end Go.Proofs.YtekaaekpdebloaaGreatDoor

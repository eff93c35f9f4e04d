/- Words and walks of the law. -/
import Derived.Test.YtekaaekpdebloaaGreatDoorBH
set_option linter.unusedVariables false
set_option linter.unusedSimpArgs false
namespace Go.Proofs.YtekaaekpdebloaaGreatDoor
open Go.RowKit

def qn2(w:World)(v:Value)(n:Nat):Prop:=∃ F,RN 1 w v n F∧∀ j,j<n→Em (F j)
theorem qn2.below{w w':World}{v:Value}{n:Nat}(h:qn2 w v n)(hb:Below w.heap.size w w'):qn2 w' v n:=by obtain⟨F,h1,h2⟩:=h;exact⟨F,h1.below hb,h2⟩
theorem qn2.sl{w:World}{v:Value}{n:Nat}(h:qn2 w v n):∃ A c,v=.slice A n c:=by obtain⟨F,h1,_⟩:=h;exact h1.sl
theorem qn2.len{w:World}{v:Value}{n:Nat}(h:qn2 w v n):n≤maxLen:=by obtain⟨F,h1,_⟩:=h;exact h1.len
theorem qn2.keep{w w':World}{v:Value}{n:Nat}(h:qn2 w v n)(hs:w.heap.size≤w'.heap.size)(hk:∀ b o,some b=v.ownBlock→w'.cell? ⟨b,o,none⟩=w.cell? ⟨b,o,none⟩):qn2 w' v n:=by
 obtain⟨F,⟨A,c,rfl,h1,h2,h3⟩,h4⟩:=h;refine⟨F,⟨A,c,rfl,h1,h2,fun hn=> ?_⟩,h4⟩;obtain⟨b,o,rfl,hb,hc⟩:=h3 hn;exact⟨b,o,rfl,a_,fun t ht=>(hk b (o+t) rfl).trans (hc t ht)⟩
theorem qn2.at_{w:World}{A:Option Addr}{m c n:Nat}(h:qn2 w (.slice A m c) n){j:Nat}(hj:j<n):∃ b o x d,A=some ⟨b,o,none⟩∧b<w.heap.size∧w.cell? ⟨b,o+j,none⟩=some (.slice x 0 d):=by
 obtain⟨F,⟨A',c',he,h1,h2,h3⟩,h4⟩:=h;obtain⟨rfl,rfl,rfl⟩:A=A'∧m=n∧c=c':=by injection he with a b c;exact⟨a,b,c⟩
 obtain⟨b,o,hA,hb,hc⟩:=h3 a_;obtain⟨x,d,hx,-,-⟩:=h4 j hj;exact⟨b,o,x,d,hA,hb,by rw[hc j a_,hx]⟩
theorem qjM{P:Program}{ops:Array Oper}{rest:List Oper}{o:Oper}{a:Act}{Q:Exit→Act→World→Prop}{w:World}(t e size bytes:Nat)(i:TypeInfo)(z:Value)
 (ht:P.underlying t=some (.slice e)) (hi:P.info? e=some i) (hz:i.zero=some z) (hsize:i.size=size) (hby:i.bytes=bytes) (hzs:z.cells.size=size) (hsz:0<size) (hb100:bytes≤1000)
 {base:Nat} {v:Value} {n:Nat} {xs:List Value} (hown:w.ownsRow base e size v n xs) (hn:n≤100000000000) (hbase:base≤w.heap.size)
 {cur:Array Value} (hgd:o.guard=none) {s x:Operand} (ho:o.op=.call {callee:=.builtin .append,args:= #[s,x],argTypes:= #[t,t]})
 (hs:a.eval s=v) (hx:a.eval x=.slice (some ⟨w.heap.size,0,none⟩) 1 1) (hl:cur.size=size) (h1:∀ u ∈ cur.toList,u.oneCell'=true)
 (h:∀ v' w',w'.ownsRow base e size v' (n+1) (xs++cur.toList)→w.grownBy w' v.ownBlock→wpList P ops Q rest (a.put o.dst v') w'):wpList P ops Q (o::rest) a (w.alloc (.cells cur e)):=by
 have hbd:(n+1)*bytes≤100000000001*1000:=Nat.mul_le_mul a_ hb100;refine wpList_append_own _ hgd s x t ho base e i z size bytes ht hi hz hsize hby hzs hsz v n xs hs
  (hown.alloc _) ⟨w.heap.size,0,none⟩ 1 1 cur.toList hx (by simp[hl]) (fun j u hu=> ?_) h1 s_ a_ n_ ?_
 · have hadd:(⟨w.heap.size,0,none⟩:Addr).add j=⟨w.heap.size,j,none⟩:=by unfold Addr.add;split <;> simp_all
   rw[hadd,cell_of_row _ w.heap.size j cur e (0,0) (heap_alloc_new w _)];simpa using hu
 · intro v' w' h2 h3 _;exact h v' w' h2 (qat (qaP ((bR_ _ _).alloc (nr_ _) _)) h3)
theorem ON.ne_{N N' B1 B2 n n':Nat}{t1 t2:TypeId}{w:World}{v1 v2:Value}{F G:Nat→Value}(h1:ON N B1 t1 w v1 n F)(h2:ON N' B2 t2 w v2 n' G)(ht:t1≠t2):v1.ownBlock=none∨v1.ownBlock≠v2.ownBlock:=by
 rcases h1.2 with⟨rfl,_⟩|⟨k,cap,cur,rfl,hk,hh,r⟩
 · exact .inl rfl
 · refine .inr fun he=> ?_;rcases h2.2 with⟨rfl,_⟩|⟨k2,cap2,cur2,rfl,hk2,hh2,r2⟩
   · cases he
   · cases he
     rw[hh] at hh2;cases hh2
     exact ht rfl
theorem qfU:(Tryz.prog.info? 50).map (fun i=>(i.zero,i.size,i.bytes))=some (some (.agg #[.int .i64 0,.int .i64 0,.int .i64 0,.int .i64 0,.slice none 0 0,.slice none 0 0]),6,80):=by kernel_rfl
theorem qeL:(Tryz.prog.info? 54).map (fun i=>(i.zero,i.size,i.bytes))=some (some (.slice none 0 0),1,24):=by kernel_rfl
def qiL(N n:Nat)(F:Nat→Value)(cur:List Value)(t:Nat):Value:=if t<n*N then F t else cur.getD (t-n*N) (.slice none 0 0)
theorem ON.push{N B n:Nat}{e:TypeId}{w:World}{v:Value}{F:Nat→Value}{cur:List Value}(h:w.ownsRow B e N v (n+1) ((List.range (n*N)).map F++cur))(hc:cur.length=N):ON N B e w v (n+1) (qiL N n F cur):=by
 have he:(List.range ((n+1)*N)).map (qiL N n F cur)=(List.range (n*N)).map F++cur:=by
  rw[Nat.succ_mul,List.range_add,List.map_append,List.map_map];congr 1
  · apply List.map_congr_left;intro t ht;unfold qiL;rw[if_pos (List.mem_range.1 ht)]
  · apply List.ext_getElem (by simp[hc]);intro s h1 h2;simp[qiL,List.getD_eq_getElem?_getD,h2];intro h;omega
 unfold ON;rw[he];exact h
def qjJ(p:Int)(n:Nat)(F:Nat→Value):Prop:=∀ j,j<n→F (j*6)=.int .i64 p∧F (j*6+1)=.int .i64 0∧F (j*6+2)=.int .i64 0∧F (j*6+3)=.int .i64 0∧Em (F (j*6+4))∧Em (F (j*6+5))
theorem qjJ.push{p:Int}{n:Nat}{F:Nat→Value}{x y:Value}(h:qjJ p n F)(hx:Em x)(hy:Em y):qjJ p (n+1) (qiL 6 n F [.int .i64 p,.int .i64 0,.int .i64 0,.int .i64 0,x,y]):=by
 intro j hj;unfold qiL;by_cases hlt:j<n
 · rw[if_pos a_,if_pos a_,if_pos a_,if_pos a_,if_pos a_,if_pos a_];exact h j hlt
 · obtain rfl:j=n:=a_;rw[if_neg a_,if_neg a_,if_neg a_,if_neg a_,if_neg a_,if_neg a_];rw[Nat.sub_self,Nat.add_sub_cancel_left,Nat.add_sub_cancel_left,Nat.add_sub_cancel_left,Nat.add_sub_cancel_left,Nat.add_sub_cancel_left];exact⟨rfl,rfl,rfl,rfl,hx,hy⟩
theorem qjJ.zero{p:Int}{F:Nat→Value}:qjJ p 0 F:=fun _ h=>by omega
def qk0(n:Nat)(F:Nat→Value):Prop:=∀ j,j<n→Em (F j)
theorem qk0.push{n:Nat}{F:Nat→Value}{x:Value}(h:qk0 n F)(hx:Em x):qk0 (n+1) (qiL 1 n F [x]):=by
 intro j hj;unfold qiL;by_cases hlt:j<n
 · rw[if_pos a_];exact h j hlt
 · obtain rfl:j=n:=a_;rw[if_neg a_,Nat.mul_one,Nat.sub_self];exact hx
theorem qk0.zero{F:Nat→Value}:qk0 0 F:=fun _ h=>by omega
theorem qjJ.feeds{p:Int}{n:Nat}{F:Nat→Value}{w:World}{v:Value}(h:qjJ p n F)(hr:RN 6 w v n F):qa6 w v (List.replicate n ⟨p,Hd.zero,[],[]⟩):=by
 refine⟨F,by rw[List.length_replicate];exact hr,fun j hj=> ?_⟩;rw[List.length_replicate] at hj;rw[List.getElem_replicate];obtain⟨h0,h1,h2,h3,h4,h5⟩:=h j hj;exact⟨h0,h1,h2,h3,⟨h4.r1 w,h5.r1 w⟩⟩

section
variable {ops:Array Oper} {rest:List Oper} {o:Oper} {a:Act} {Q:Exit→Act→World→Prop} {w:World} {base:Nat} {v:Value}
theorem qmv{p:Int}{n:Nat}{F:Nat→Value}{x y:Value}(hown:ON 6 base 50 w v n F)(hF:qjJ p n F)(hx':Em x)(hy':Em y)(hn:n≤100000000000)(hbase:base≤w.heap.size)(hgd:o.guard=none){s u:Operand}
 (ho:o.op=.call {callee:=.builtin .append,args:= #[s,u],argTypes:= #[23,23]}) (hs:a.eval s=v) {g:Nat} (hu:a.eval u=.slice (some ⟨g,0,none⟩) 1 1) (hg:g=w.heap.size)
 (h:∀ A c w' F',ON 6 base 50 w' (.slice A (n+1) c) (n+1) F'→qjJ p (n+1) F'→w.grownBy w' v.ownBlock→Below base w w'→wpList Tryz.prog ops Q rest (a.put o.dst (.slice A (n+1) c)) w'):
 wpList Tryz.prog ops Q (o::rest) a (w.alloc (.cells #[.int .i64 p,.int .i64 0,.int .i64 0,.int .i64 0,x,y] 50)):=by
 subst hg;obtain⟨i0,hi,hz0,hz1,hz2⟩:=info_parts qfU;obtain⟨xA,xc,rfl,e1,e2⟩:=hx';obtain⟨yA,yc,rfl,e3,e4⟩:=hy';refine qjM 23 50 6 80 i0 _ Tryz.underlying23 hi hz0 hz1 hz2 rfl a_ a_ hown hn hbase hgd ho hs hu rfl (by simp;exact⟨rfl,rfl,rfl,rfl⟩) fun v' w' h2 h3=> ?_;have h4:=ON.push h2 rfl;obtain⟨A,c,rfl⟩:=h4.rn.sl;exact h A c w' _ h4 (hF.push ⟨_,_,rfl,e1,e2⟩ ⟨_,_,rfl,e3,e4⟩) h3 ((bR_ _ _).grown h3 hbase (fun k hk=>(hown.lt k hk).1))
theorem qnw{n:Nat}{F:Nat→Value}{x:Value}(hown:ON 1 base 54 w v n F)(hF:qk0 n F)(hx':Em x)(hn:n≤100000000000)(hbase:base≤w.heap.size)(hgd:o.guard=none){s u:Operand}
 (ho:o.op=.call {callee:=.builtin .append,args:= #[s,u],argTypes:= #[25,25]}) (hs:a.eval s=v) {g:Nat} (hu:a.eval u=.slice (some ⟨g,0,none⟩) 1 1) (hg:g=w.heap.size)
 (h:∀ A c w' F',ON 1 base 54 w' (.slice A (n+1) c) (n+1) F'→qk0 (n+1) F'→w.grownBy w' v.ownBlock→Below base w w'→wpList Tryz.prog ops Q rest (a.put o.dst (.slice A (n+1) c)) w'):
 wpList Tryz.prog ops Q (o::rest) a (w.alloc (.cells #[x] 54)):=by
 subst hg;obtain⟨i0,hi,hz0,hz1,hz2⟩:=info_parts qeL;obtain⟨xA,xc,rfl,e1,e2⟩:=hx';refine qjM 25 54 1 24 i0 _ Tryz.underlying25 hi hz0 hz1 hz2 rfl a_ a_ hown hn hbase hgd ho hs hu rfl (by simp;rfl) fun v' w' h2 h3=> ?_;have h4:=ON.push h2 rfl;obtain⟨A,c,rfl⟩:=h4.rn.sl;exact h A c w' _ h4 (hF.push ⟨_,_,rfl,e1,e2⟩) h3 ((bR_ _ _).grown h3 hbase (fun k hk=>(hown.lt k hk).1))
end

theorem qcr{s p:Int}(h:Hid (qhr s=p))(w:World):Calls Tryz.prog 154 #[.int .i64 s] w fun e w'=>e=.returned (.int .i64 p)∧w=w':=by
 rw[←h.out];exact qhQ s w
theorem qki{p:Int}(hk:Hid (key p=true))(w:World):Calls Tryz.prog 125 #[.int .i64 p] w fun e w'=>∃ x y,e=.returned (.tuple #[.agg #[.int .i64 p,.int .i64 0,.int .i64 0,.int .i64 0,x,y],.bool true])∧Em x∧Em y∧Below w.heap.size w w':=by
 refine(qk4 p w).mono ?_;rintro e w' ⟨x,y,rfl,ho,hb⟩;have hf:(qnk p).pub=p:=by unfold qnk;rw[hk.out];rfl
 rw[hf,hk.out];exact⟨x,y,rfl,R1.em ho.bl.r1,R1.em ho.hv.r1,hb⟩
theorem qfw{s:Int}(h:key s=true):key (qhr s)=true:=by
 obtain⟨h1,h2⟩:=qcd.1 h;unfold qhr;rw[h,qcd];simp only[if_true];omega

def qfb(s n b:Int):Bool:=key s&&inB n 1 6&&(b== -1||inB b 1 (n-1))
theorem qej{s n b:Int}{r:Bool}(h:Hid (qfb s n b=r))(w:World):Calls Tryz.prog 69 #[.int .i64 s,.int .i64 n,.int .i64 b] w fun e w'=>e=.returned (.bool r)∧w=w':=by
 obtain⟨b1,H1⟩:=nm_ (key s);obtain⟨b2,H2⟩:=nm_ (inB n 1 6);obtain⟨b3,H3⟩:=nm_ (inB b 1 (n-1));have hr:(b1&&b2&&(b== -1||b3))=r:=by rw[←H1.out,←H2.out,←H3.out,←h.out];rfl
 subst hr;cases b1
 · go_enter Tryz.func69,Tryz.ntmps69
   go_wp2_with (go_at_call 149;refine(qbK H1 _).mono ?_;rintro e w' ⟨rfl,rfl⟩)
   go_ret;exact⟨rfl,rfl⟩
 cases b2
 · go_enter Tryz.func69,Tryz.ntmps69
   go_wp2_with (first
    |(go_at_call 149;refine(qbK H1 _).mono ?_;rintro e w' ⟨rfl,rfl⟩)
    |(go_at_call 113;refine(qbe H2 _).mono ?_;rintro e w' ⟨rfl,rfl⟩))
   go_ret;exact⟨rfl,rfl⟩
 have hn:=qak.1 H2.out;by_cases hb:b= -1
 · subst hb;go_enter Tryz.func69,Tryz.ntmps69
   go_wp2_with (first
    |(go_at_call 149;refine(qbK H1 _).mono ?_;rintro e w' ⟨rfl,rfl⟩)
    |(go_at_call 113;refine(qbe H2 _).mono ?_;rintro e w' ⟨rfl,rfl⟩))
   go_ret;exact⟨rfl,rfl⟩
 · have hb':(b== -1)=false:=by rw[beq_eq_false_iff_ne];exact hb
   rw[hb'];go_enter Tryz.func69,Tryz.ntmps69
   go_wp2_with (first
    |(go_at_call 149;refine(qbK H1 _).mono ?_;rintro e w' ⟨rfl,rfl⟩)
    |(go_at_call_of 113 (Value.int .i64 b);refine(qbe H3 _).mono ?_;rintro e w' ⟨rfl,rfl⟩)
    |(go_at_call 113;refine(qbe H2 _).mono ?_;rintro e w' ⟨rfl,rfl⟩))
   go_ret;exact⟨rfl,rfl⟩
def qns(ok:Bool)(n:Nat)(s b p:Int)(w:World)(e:Ending)(w':World):Prop:=
 ∃ vF vL vA vN F G,e=.returned (.tuple #[.agg #[.int .i64 s,.int .i64 b,vF,vL,vA,vN],.bool ok])∧ON 6 w.heap.size 50 w' vF n F∧qjJ p n F∧ON 1 w.heap.size 54 w' vA n G∧qk0 n G∧Em vL∧Em vN∧Below w.heap.size w w'
set_option maxHeartbeats 800000 in
theorem qeE{s n b:Int}(h:Hid (qfb s n b=false))(w:World):Calls Tryz.prog 55 #[.int .i64 s,.int .i64 n,.int .i64 b] w (qns false 0 0 0 0 w):=by
 obtain⟨b1,H1⟩:=nm_ (key s);obtain⟨b2,H2⟩:=nm_ (inB n 1 6);obtain⟨b3,H3⟩:=nm_ (inB b 1 (n-1));have hr:(b1&&b2&&(b== -1||b3))=false:=by rw[←H1.out,←H2.out,←H3.out,←h.out];rfl
 have fin:∀ e w',(e=.returned (.tuple #[.agg #[.int .i64 0,.int .i64 0,.slice none 0 0,.slice none 0 0,.slice none 0 0,.slice none 0 0],.bool false])∧Below w.heap.size w w')→qns false 0 0 0 0 w e w':=by
  rintro e w' ⟨rfl,hb⟩;exact⟨_,_,_,_,fun _=>.int .i64 0,fun _=>.int .i64 0,rfl,ON.nil,qjJ.zero,ON.nil,qk0.zero,Em.none,Em.none,hb⟩
 have HFI:=hI_ fin;clear fin;cases b1
 · go_enter Tryz.func55,Tryz.ntmps55
   go_wp2_with (go_at_call 123;refine(qbS H1 _).mono ?_;rintro e w' ⟨rfl,rfl⟩)
   exact bodyPost_ret (v:=.tuple #[.agg #[.int .i64 0,.int .i64 0,.slice none 0 0,.slice none 0 0,.slice none 0 0,.slice none 0 0],.bool false]) b8_ rfl
    (HFI.out _ _ ⟨rfl,z_⟩)
 cases b2
 · go_enter Tryz.func55,Tryz.ntmps55
   go_wp2_with (first
    |(go_at_call 123;refine(qbS H1 _).mono ?_;rintro e w' ⟨rfl,rfl⟩)
    |(go_at_call 124;refine(qbG H2 _).mono ?_;rintro e w' ⟨rfl,rfl⟩))
   exact bodyPost_ret (v:=.tuple #[.agg #[.int .i64 0,.int .i64 0,.slice none 0 0,.slice none 0 0,.slice none 0 0,.slice none 0 0],.bool false]) b8_ rfl
    (HFI.out _ _ ⟨rfl,z_⟩)
 have hn:=qak.1 H2.out;have hb':(b== -1)=false:=by cases h1:(b== -1) <;> simp_all
 have hbn:(b != -1)=true:=by unfold bne;rw[hb'];rfl
 have hb3:b3=false:=by cases b3 <;> simp_all
 subst hb3;go_enter Tryz.func55,Tryz.ntmps55
 go_wp2_with (first
  |(go_at_call 123;refine(qbS H1 _).mono ?_;rintro e w' ⟨rfl,rfl⟩)
  |(go_at_call_of 124 (Value.int .i64 b);refine(qbG H3 _).mono ?_;rintro e w' ⟨rfl,rfl⟩)
  |(go_at_call 124;refine(qbG H2 _).mono ?_;rintro e w' ⟨rfl,rfl⟩))
 exact bodyPost_ret (v:=.tuple #[.agg #[.int .i64 0,.int .i64 0,.slice none 0 0,.slice none 0 0,.slice none 0 0,.slice none 0 0],.bool false]) b8_ rfl
  (HFI.out _ _ ⟨rfl,z_⟩)
end Go.Proofs.YtekaaekpdebloaaGreatDoor

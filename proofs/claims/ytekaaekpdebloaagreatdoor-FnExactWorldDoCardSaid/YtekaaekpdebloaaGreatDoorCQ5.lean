/- Words and walks of the law. -/
import Derived.Test.YtekaaekpdebloaaGreatDoorCP5
import Derived.Conc.MuLone
import Derived.KernelRfl
set_option linter.unusedVariables false
set_option linter.unusedSimpArgs false
set_option maxHeartbeats 12800000
set_option maxRecDepth 100000
namespace Go.Proofs.YtekaaekpdebloaaGreatDoor
open Go

def quC:Go.Conc.Locks.MuLink:={lock:=105,unlock:=106,ilock:=181,iunlock:=182,lockSlow:=238,unlockSlow:=241,disable:=234,enable:=236,acquire:=237,relMerge:=239,cas32:=235,add32:=240,tMutex:=94,tIMutex:=92,tPMutex:=203,tPIMutex:=246,tPI32:=248,tUP:=250,tNoCopy:=89,tU32:=90}
theorem qrX:Go.Conc.Locks.MuLib Tryz.prog quC:=
 ⟨Tryz.func105,Tryz.func106,Tryz.func181,Tryz.func182,Tryz.func234,Tryz.func236,Tryz.func237,Tryz.func239,Tryz.func235,Tryz.func240,
  Tryz.underlying92,Tryz.runUnderlying92,Tryz.sizeOf92,Tryz.isAgg92,Tryz.zeroValue92,Tryz.underlying94,Tryz.runUnderlying94,Tryz.sizeOf94,Tryz.isAgg94,Tryz.zeroValue94,
  Tryz.underlying203,Tryz.runUnderlying203,Tryz.sizeOf203,Tryz.isAgg203,Tryz.zeroValue203,Tryz.underlying246,Tryz.runUnderlying246,Tryz.sizeOf246,Tryz.isAgg246,Tryz.zeroValue246,
  Tryz.underlying248,Tryz.runUnderlying248,Tryz.sizeOf248,Tryz.isAgg248,Tryz.zeroValue248,Tryz.underlying250,Tryz.runUnderlying250,Tryz.sizeOf250,Tryz.isAgg250,Tryz.zeroValue250,Tryz.underlying89,Tryz.runUnderlying89,Tryz.sizeOf89,Tryz.isAgg89,Tryz.zeroValue89,
  Tryz.underlying21,Tryz.runUnderlying21,Tryz.sizeOf21,Tryz.isAgg21,Tryz.zeroValue21,d_⟩
end Go.Proofs.YtekaaekpdebloaaGreatDoor
namespace Go.Proofs.YtekaaekpdebloaaGreatDoor
open Go.RowKit Go.Shelf
attribute [local go_sem ↓] Go.wp_at_zero Go.wp_at_succ

theorem qtb{r:Bool}(q o n cF:Nat)(AF:Option Addr)(p:Int)(w:World)(hr:Hid (inB p 0 ((n:Int)-1)=r))(h:w.cell? ⟨q,o+2,none⟩=some (.slice AF n cF))(hn:n≤maxLen):
 gS 109 #[.pointer (some ⟨q,o,none⟩),.int .i64 p] w (.bool r):=by
 unfold maxLen at hn;go_enter Tryz.func109,Tryz.ntmps109
 go_wp2_with (go_at_call 113;refine(qaO _ _ _ _).mono ?_;rw[hr.out];rintro e w' ⟨rfl,rfl⟩)
 go_ret;exact⟨rfl,rfl⟩
section
variable {B q o:Nat} {w W1 w4:World} {x y:Wd} {vF vL vA vN:Value}
theorem MI.lockc(h:MI B q o x w vF vL vA vN){i:Nat}(hi:i<o)(v:Value):MI B q o x (w.setCell ⟨q,i,none⟩ v) vF vL vA vN:=by
 have ne:∀ k,(⟨q,i,none⟩:Addr)≠⟨q,o+k,none⟩:=fun k e=>by
  injection e with _ e2 _
  omega
 have ne0:(⟨q,i,none⟩:Addr)≠⟨q,o,none⟩:=fun e=>by
  injection e with _ e2 _
  omega
 refine⟨⟨(World.cell?_setCell_other _ _ _ _ ne0).trans h.bx.c0,(World.cell?_setCell_other _ _ _ _ (ne 1)).trans h.bx.c1,(World.cell?_setCell_other _ _ _ _ (ne 2)).trans h.bx.c2,(World.cell?_setCell_other _ _ _ _ (ne 3)).trans h.bx.c3,(World.cell?_setCell_other _ _ _ _ (ne 4)).trans h.bx.c4,(World.cell?_setCell_other _ _ _ _ (ne 5)).trans h.bx.c5,h.bx.set_ty _ _⟩,?_,h.bq⟩;rw[World.size_setCell];exact h.p.keep (h.bx.keep2 i v)
theorem qrH.shut(hp:qrH B q 2 W1 y (.returned (.tuple #[])) w4)(hB:Below B w W1)(c0:W1.cell? ⟨q,0,none⟩=some (.int .i32 1))(c1:W1.cell? ⟨q,1,none⟩=w.cell? ⟨q,1,none⟩)(m0:w.cell? ⟨q,0,none⟩=some (.int .i32 0)):
 w4.cell? ⟨q,0,none⟩=some (.int .i32 1)∧w4.frozen? ⟨q,0,none⟩=false∧qrH B q 2 w y (.returned (.tuple #[])) (w4.setCell ⟨q,0,none⟩ (.int .i32 0)):=by
 obtain⟨_,a,b,c,d,h1,h2,h3⟩:=hp;have e0:=(h3 0 a_).trans c0;refine⟨e0,h1.bx.fz 0,rfl,a,b,c,d,h1.lockc a_ _,(hB.trans h2).setCell (p:=⟨q,0,none⟩) h1.bq _,fun i hi=> ?_⟩;obtain rfl|rfl:i=0∨i=1:=a_
 · rw[World.cell?_setCell_same _ _ _ e0,m0]
 · rw[World.cell?_setCell_other _ _ _ _ k_,h3 1 a_,c1]
end
theorem quf{x:Wd}{a b:Int}{up:Bool}(h:inB a 0 ((x.feeds.length:Int)-1)=false∨inB b 0 ((x.feeds.length:Int)-1)=false∨a=b):qeh x a b up=x:=by
 unfold qeh;have:qmd x a b up=false:=by
  have hmin:min a b=a∨min a b=b:=a_;unfold qmd qbw;simp only;rcases h with h|h|h
  · by_cases hab:a≤b
    · rw[Int.min_eq_left hab,h];simp
    · rw[Int.max_eq_left a_,h];simp
  · by_cases hab:a≤b
    · rw[Int.max_eq_right hab,h];simp
    · rw[Int.min_eq_right a_,h];simp
  · subst h;rw[Int.min_eq_left a_,Int.max_eq_left a_];simp
 rw[this];rfl
theorem qs7{x:Wd}{a b:Int}(up:Bool)(ha:inB a 0 ((x.feeds.length:Int)-1)=true)(hb:inB b 0 ((x.feeds.length:Int)-1)=true)(hab:a≠b):qmd x a b up= !(qbk x a b==up)∧Bnd x.feeds.length (qbw a b):=by
 have h1:=qak.1 ha;have h2:=qak.1 hb;unfold qmd qbw Bnd;simp only;by_cases hl:a≤b
 · rw[Int.min_eq_left hl,Int.max_eq_right hl,ha,hb];refine⟨?_,a_⟩;have:(a !=b)=true:=by simpa using hab
   rw[this];simp[bne]
 · rw[Int.min_eq_right a_,Int.max_eq_left a_,ha,hb];refine⟨?_,a_⟩;have:(b !=a)=true:=by simpa using Ne.symm hab
   rw[this];simp[bne]
theorem qtY{x:Wd}{e:Ev}(h:qbk x e.a e.b=false)(h4:e.kind=4∨e.kind=5∨e.kind=6):wdo x e=x:=by
 obtain⟨k,a,b,c,t⟩:=e;simp only at h h4;rcases h4 with rfl|rfl|rfl
 · show qa0 x a b=x;unfold qa0 qdj;rw[h];rfl
 · show qiT x a b c=x;unfold qiT qgE;rw[h];rfl
 · show qbO x a b c t=x;unfold qbO qfj;rw[h];rfl
theorem qtz{x:Wd}{e:Ev}(h4:e.kind=4∨e.kind=5∨e.kind=6):wdo x e=qsP x e:=by
 obtain⟨k,a,b,c,t⟩:=e;simp only at h4;rcases h4 with rfl|rfl|rfl <;> rfl
theorem qut{x:Wd}{k:Int}{lost:Bool}(h:inB k 0 ((x.net.length:Int)-1)=false):qgz x k lost=x:=by unfold qgz;rw[h];rfl
theorem que{x:Wd}{k:Nat}{lost:Bool}(h:k<x.net.length):qgz x k lost=if lost then {x with net:=x.net.eraseIdx k} else qd2 {x with net:=x.net.eraseIdx k} x.net[k]:=by
 unfold qgz;rw[qak.2 a_,Int.toNat_natCast,qam h];rfl
theorem quI{x:Wd}(hv:WV x){i:Nat}(hi:i<x.net.length):(∃ j:Nat,x.net[i].to_=j∧j<x.feeds.length)∧x.net[i].txt.size≤8:=by
 obtain⟨_,p2,_,_,p5,_⟩:=qcF.1 (hv.pc i hi);have:=qak.1 p2;exact⟨⟨x.net[i].to_.toNat,a_,a_⟩,p5⟩
theorem qbd.get{B C b n c:Nat}{w:World}{ps:List Pc}(h:qbd B C w (.slice (some ⟨b,0,none⟩) n c) ps){j:Nat}(hj:j<ps.length):∃ x,w.cell? ⟨b,j*6,none⟩=some (.int .i64 ps[j].fr)∧w.cell? ⟨b,j*6+1,none⟩=some (.int .i64 ps[j].to_)∧w.cell? ⟨b,j*6+2,none⟩=some (.int .i64 ps[j].len)∧
 w.cell? ⟨b,j*6+3,none⟩=some (.int .i64 ps[j].idx)∧w.cell? ⟨b,j*6+4,none⟩=some (.string ps[j].txt)∧w.cell? ⟨b,j*6+5,none⟩=some x∧O1 (Value.int .i64) B 3 w x ps[j].prf∧B≤b∧b<w.heap.size∧b<C:=by
 obtain⟨h0,F,h1,h2,_⟩:=h;obtain⟨_,_,he⟩:=h1.rn.sl;obtain rfl:n=ps.length:=J_;obtain⟨f0,f1,f2,f3,f4,f5,_⟩:=h2 j hj;have k:=h1.lt b rfl;refine⟨_,?_,?_,?_,?_,?_,(h1.at_ (t:=j*6+5) a_).1,f5,k.1,k.2,h0 b rfl⟩
 · rw[(h1.at_ (t:=j*6) a_).1,f0]
 · rw[(h1.at_ (t:=j*6+1) a_).1,f1]
 · rw[(h1.at_ (t:=j*6+2) a_).1,f2]
 · rw[(h1.at_ (t:=j*6+3) a_).1,f3]
 · rw[(h1.at_ (t:=j*6+4) a_).1,f4]
theorem qrE{P:Program}{fn:Func}{R:Ending→World→Prop}(h0:fn.results= #[]):∀ (ds:List Deferred) (u:FrameMode) (w:World) (t t':Array Value),Leaves P fn t R ds u w→Leaves P fn t' R ds u w
 |[],.run,_,_,_,h=>h.elim
 |[],.returning,w,t,t',h=>by
  obtain⟨v,hr,hR⟩:=h;have e:=results_none (P:=P) h0 t w;have e':=results_none (P:=P) h0 t' w;exact⟨v,e'.trans (e.symm.trans hr),hR⟩
 |[],.panicking _,_,_,_,h=>h
 |d::ds,u,w,t,t',h=>by
  obtain⟨a,fv,cap,f,args,b,c,k⟩:=h;refine⟨a,fv,cap,f,args,b,c,k.mono fun e u' w' hh=> ?_⟩;cases e with
  |returned v=>exact qrE h0 ds _ _ t t' hh
  |panicked chain=>exact qrE h0 ds _ _ t t' hh
  |outgrown=>exact hh
section
variable {md:Region.Mode} {ops:Array Oper} {Q:Exit→Act→World→Prop} {S:World→Prop} {b:Nat→Bool}
theorem lU_(i:Nat) {oi:Oper} {v:Value} {f:Nat} {l:Array Bool} {a:Act} {w:World} (h:TkU Tryz.prog md ops Q S b f (l.setIfInBounds i true) (a.put oi.dst v) w) (hi:ops[i]?=some oi:=by exact rfl) (hs:(Region.noSelect ops&&quA md ops b l i&&Region.free md ops l i&&(Region.ready md ops l).contains i)=true:=by kernel_rfl) (hQ:∀ c a w,Q (.panic c) (a.put oi.dst v) w→Q (.panic c) a w:=by exact fun _ _ _ h=>qrE Tryz.results52 _ _ _ _ _ h) (hy:YieldsIf Tryz.prog ops S oi v a:=by refine Or.inl ⟨p_,?_⟩;intro w_ hSw;(try dsimp only at hSw);go_simp;try with_reducible rfl):TkU Tryz.prog md ops Q S b (f+1) l a w:=tU_ i h hi hs hQ hy
theorem lF_(i:Nat) {oi:Oper} {v:Value} {f:Nat} {l:Array Bool} {a:Act} {w:World} (h:TkU Tryz.prog md ops Q S b f (l.setIfInBounds i true) (a.put oi.dst v) w) (hi:ops[i]?=some oi:=by exact rfl) (hs:(Region.noSelect ops&& !b i&&Region.free md ops l i&&(Region.ready md ops l).contains i)=true:=by kernel_rfl) (hQ:∀ c a w,Q (.panic c) (a.put oi.dst v) w→Q (.panic c) a w:=by exact fun _ _ _ h=>qrE Tryz.results52 _ _ _ _ _ h) (hy:YieldsIf Tryz.prog ops (fun _=>True) oi v a:=by refine Or.inl ⟨p_,?_⟩;intro w_ _;go_simp;try with_reducible rfl):TkU Tryz.prog md ops Q S b (f+1) l a w:=tF_ i h hi hs hQ hy
theorem lG_(i:Nat) {oi:Oper} {v:Value} {f:Nat} {l:Array Bool} {a:Act} {w:World} (h:TkF Tryz.prog md ops Q S b f (l.setIfInBounds i true) (a.put oi.dst v) w) (hi:ops[i]?=some oi:=by exact rfl) (hs:(Region.noSelect ops&& !b i&&Region.free md ops l i&&(Region.ready md ops l).contains i)=true:=by kernel_rfl) (hQ:∀ c a w,Q (.panic c) (a.put oi.dst v) w→Q (.panic c) a w:=by exact fun _ _ _ h=>qrE Tryz.results52 _ _ _ _ _ h) (hy:YieldsIf Tryz.prog ops (fun _=>True) oi v a:=by refine Or.inl ⟨p_,?_⟩;intro w_ _;go_simp;try with_reducible rfl):TkF Tryz.prog md ops Q S b (f+1) l a w:=tG_ i h hi hs hQ hy
end
theorem qsk(v:Value)(w:World):(Instr.typeAssert (.iface 146 v) 143 146 true).run Tryz.prog w=.ok (.tuple #[v,.bool true]) w:=by
 simp[Instr.typeAssert,Tryz.runUnderlying146]
theorem qrS(t:TypeId)(v:Value)(w:World)(h:t≠146):(Instr.typeAssert (.iface t v) 143 146 true).run Tryz.prog w=.ok (.tuple #[.agg #[.string ⟨#[]⟩],.bool false]) w:=by
 simp[Instr.typeAssert,Tryz.runUnderlying146,h,Tryz.zeroValue146]
theorem qsg(w:World):(Instr.typeAssert .nilIface 143 146 true).run Tryz.prog w=.ok (.tuple #[.agg #[.string ⟨#[]⟩],.bool false]) w:=by
 simp[Instr.typeAssert,Tryz.runUnderlying146,Tryz.zeroValue146]
theorem qsl(v:Value)(w:World):(Instr.typeAssert (.iface 149 v) 143 149 true).run Tryz.prog w=.ok (.tuple #[v,.bool true]) w:=by
 simp[Instr.typeAssert,Tryz.runUnderlying149]
theorem qr0(t:TypeId)(v:Value)(w:World)(h:t≠149):(Instr.typeAssert (.iface t v) 143 149 true).run Tryz.prog w=.ok (.tuple #[.agg #[.int .i64 0,.int .i64 0,.bool false],.bool false]) w:=by
 simp[Instr.typeAssert,Tryz.runUnderlying149,h,Tryz.zeroValue149]
theorem qsh(w:World):(Instr.typeAssert .nilIface 143 149 true).run Tryz.prog w=.ok (.tuple #[.agg #[.int .i64 0,.int .i64 0,.bool false],.bool false]) w:=by
 simp[Instr.typeAssert,Tryz.runUnderlying149,Tryz.zeroValue149]
theorem qso(v:Value)(w:World):(Instr.typeAssert (.iface 152 v) 143 152 true).run Tryz.prog w=.ok (.tuple #[v,.bool true]) w:=by
 simp[Instr.typeAssert,Tryz.runUnderlying152]
theorem qsj(t:TypeId)(v:Value)(w:World)(h:t≠152):(Instr.typeAssert (.iface t v) 143 152 true).run Tryz.prog w=.ok (.tuple #[.agg #[.int .i64 0,.int .i64 0,.int .i64 0,.int .i64 0,.string ⟨#[]⟩],.bool false]) w:=by
 simp[Instr.typeAssert,Tryz.runUnderlying152,h,Tryz.zeroValue152]
theorem qsi(w:World):(Instr.typeAssert .nilIface 143 152 true).run Tryz.prog w=.ok (.tuple #[.agg #[.int .i64 0,.int .i64 0,.int .i64 0,.int .i64 0,.string ⟨#[]⟩],.bool false]) w:=by
 simp[Instr.typeAssert,Tryz.runUnderlying152,Tryz.zeroValue152]
theorem qsy(v:Value)(w:World):(Instr.typeAssert (.iface 155 v) 143 155 true).run Tryz.prog w=.ok (.tuple #[v,.bool true]) w:=by
 simp[Instr.typeAssert,Tryz.runUnderlying155]
theorem qsx(w:World):(Instr.typeAssert .nilIface 143 155 true).run Tryz.prog w=.ok (.tuple #[.agg #[.int .i64 0,.bool false],.bool false]) w:=by
 simp[Instr.typeAssert,Tryz.runUnderlying155,Tryz.zeroValue155]
theorem qtl(x:Wd)(e:Ev)(q B:Nat)(vF vL vA vN:Value)(w:World)(h:MI B q 2 x w vF vL vA vN)(hv:WV x)(m0:w.cell? ⟨q,0,none⟩=some (.int .i32 0))(hk:qt0 e=.nilIface):Calls Tryz.prog 52 #[.pointer (some ⟨q,0,none⟩),.agg (evC e)] w (qrH B q 2 w (x)):=by
 obtain⟨k,a,b,c,t⟩:=e;try simp only at hk
 have HCH:Hid (qt0 ⟨k,a,b,c,t⟩=.nilIface):=hI_ (by exact hk);clear hk;unfold evC;have HM:=hI_ h;have HV:=hI_ hv;have HM0:=hI_ m0;have hq:=h.lt;have f0:w.frozen? ⟨q,0,none⟩=false:=h.bx.fz 0;obtain⟨W0,HW0⟩:=nm_ (w.alloc (.cells #[.int .i64 k,.int .i64 a,.int .i64 b,.int .i64 c,.string t] 30));obtain⟨p,HP⟩:=nm_ w.heap.size;have hb0:bB w W0:=by rw[←HW0.out];exact qab (bR_ _ _) _
 have hy0:W0.heap[p]? =some (.cells #[.int .i64 k,.int .i64 a,.int .i64 b,.int .i64 c,.string t] 30 (0,0)):=by rw[←HW0.out,←HP.out];exact heap_alloc_new _ _
 have n0:W0.cell? ⟨q,0,none⟩=some (.int .i32 0):=(hb0.cell (p:=⟨q,0,none⟩) hq).trans m0;have fz0:W0.frozen? ⟨q,0,none⟩=false:=(h.below hb0).bx.fz 0;obtain⟨W1,HW1⟩:=nm_ (W0.setCell ⟨q,0,none⟩ (.int .i32 1));have HM1:Hid (MI B q 2 x W1 vF vL vA vN):=hI_ Q_;have HB1:Hid (Below B w W1):=hI_ F_;have HC0:Hid (W1.cell? ⟨q,0,none⟩=some (.int .i32 1)):=hI_ N_;have HC1:Hid (W1.cell? ⟨q,1,none⟩=w.cell? ⟨q,1,none⟩):=hI_ y_;have hy1:W1.heap[p]? =some (.cells #[.int .i64 k,.int .i64 a,.int .i64 b,.int .i64 c,.string t] 30 (0,0)):=by rw[←HW1.out];exact(Below.heap_setCell _ _ _ _ ap_).trans hy0
 obtain⟨ec0,ec1,ec2,ec3,ec4,ecf⟩:=qrL hy1;clear h hv m0 f0 hy0 hy1 hb0;have ta0:=qsg;have ta1:=qsh;have ta2:=qsi;have ta3:=qsx;go_enter_defers Tryz.func52,Tryz.ntmps52
 go_upto_region 1 with fail
 rw[HW0.out,HP.out];go_upto_region 2 with(go_at_call 105;refine(Go.MuLone.lock_free qrX ⟨q,0,none⟩ _ n0 fz0).mono ?_;rintro e W1' ⟨rfl,rfl⟩)
 rw[HW1.out];clear n0 fz0;go_wp2_with fail
 refine(qrT ⟨k,a,b,c,t⟩ W1).mono ?_;rintro e w2 ⟨rfl,hb2⟩;rw[HCH.out];have hm2:=HM1.out.below hb2;have hl2:=hm2.lt;clear ec0 ec1 ec2 ec3 ec4 ecf;have HPX:Hid (qrH B q 2 W1 x (.returned (.tuple #[])) w2):=hI_ (qrH.same HM1.out hb2);clear hm2 hb2;go_wp2_with fail
 obtain⟨d0,d1,d2⟩:=HPX.out.shut HB1.out HC0.out HC1.out HM0.out;refine leaves_cons (f:=106) (args:= #[.pointer (some ⟨q,0,none⟩)]) k_ ah_ ?_;refine(Go.MuLone.unlock_deferred qrX ⟨q,0,none⟩ .returning _ d0 d1).mono ?_;rintro e u' w5 ⟨rfl,rfl,rfl⟩;refine⟨_,results_none rfl _ _ _,?_⟩;exact d2
theorem qtj(x:Wd)(e:Ev)(q B:Nat)(vF vL vA vN:Value)(w:World)(h:MI B q 2 x w vF vL vA vN)(hv:WV x)(m0:w.cell? ⟨q,0,none⟩=some (.int .i32 0))(hk:e.kind=1)(ht:e.txt.size≤maxLen):Calls Tryz.prog 52 #[.pointer (some ⟨q,0,none⟩),.agg (evC e)] w (qrH B q 2 w (qd1 x e.txt)):=by
 obtain⟨k,a,b,c,t⟩:=e;try simp only at hk ht ⊢
 have HCH:Hid (qt0 ⟨k,a,b,c,t⟩=.iface 146 (.agg #[.string t])):=hI_ (by subst hk;rfl);clear hk;unfold evC;have HM:=hI_ h;have HV:=hI_ hv;have HM0:=hI_ m0;have hq:=h.lt;have f0:w.frozen? ⟨q,0,none⟩=false:=h.bx.fz 0;obtain⟨W0,HW0⟩:=nm_ (w.alloc (.cells #[.int .i64 k,.int .i64 a,.int .i64 b,.int .i64 c,.string t] 30));obtain⟨p,HP⟩:=nm_ w.heap.size;have hb0:bB w W0:=by rw[←HW0.out];exact qab (bR_ _ _) _
 have hy0:W0.heap[p]? =some (.cells #[.int .i64 k,.int .i64 a,.int .i64 b,.int .i64 c,.string t] 30 (0,0)):=by rw[←HW0.out,←HP.out];exact heap_alloc_new _ _
 have n0:W0.cell? ⟨q,0,none⟩=some (.int .i32 0):=(hb0.cell (p:=⟨q,0,none⟩) hq).trans m0;have fz0:W0.frozen? ⟨q,0,none⟩=false:=(h.below hb0).bx.fz 0;obtain⟨W1,HW1⟩:=nm_ (W0.setCell ⟨q,0,none⟩ (.int .i32 1));have HM1:Hid (MI B q 2 x W1 vF vL vA vN):=hI_ Q_;have HB1:Hid (Below B w W1):=hI_ F_;have HC0:Hid (W1.cell? ⟨q,0,none⟩=some (.int .i32 1)):=hI_ N_;have HC1:Hid (W1.cell? ⟨q,1,none⟩=w.cell? ⟨q,1,none⟩):=hI_ y_;have hy1:W1.heap[p]? =some (.cells #[.int .i64 k,.int .i64 a,.int .i64 b,.int .i64 c,.string t] 30 (0,0)):=by rw[←HW1.out];exact(Below.heap_setCell _ _ _ _ ap_).trans hy0
 obtain⟨ec0,ec1,ec2,ec3,ec4,ecf⟩:=qrL hy1;clear h hv m0 f0 hy0 hy1 hb0;have ta0:=fun v w=>qsk v w;go_enter_defers Tryz.func52,Tryz.ntmps52
 go_upto_region 1 with fail
 rw[HW0.out,HP.out];go_upto_region 2 with(go_at_call 105;refine(Go.MuLone.lock_free qrX ⟨q,0,none⟩ _ n0 fz0).mono ?_;rintro e W1' ⟨rfl,rfl⟩)
 rw[HW1.out];clear n0 fz0;go_wp2_with fail
 refine(qrT ⟨k,a,b,c,t⟩ W1).mono ?_;rintro e w2 ⟨rfl,hb2⟩;rw[HCH.out];have hm2:=HM1.out.below hb2;have hl2:=hm2.lt;clear ec0 ec1 ec2 ec3 ec4 ecf;obtain⟨w3,HW3⟩:=nm_ (w2.alloc (.cells #[.string t] 146));have hb3:bB W1 w3:=by rw[←HW3.out];exact qab hb2 _
 have hz3:w3.heap[w2.heap.size]? =some (.cells #[.string t] 146 (0,0)):=by rw[←HW3.out];exact heap_alloc_new _ _
 have HG:=hI_ (quz x t q 2 B _ _ _ _ (w3.drew) (HM1.out.below (qac hb3)) HV.out ht);have HB3:=hI_ hb3;obtain⟨g0,gf⟩:=qtG hz3;clear hb2 hm2 hb3 hz3 ht;go_upto_region 6 with fail
 rw[HW3.out];have d0:w3.drew.cell? ⟨w2.heap.size,0,none⟩=_:=g0;refine qrO (fun w'=>w'.cell? ⟨w2.heap.size,0,none⟩=some (.string t)) (fun i=>decide (i<5)) d_ d0 (fun hS hI=> ?_);refine gU_ ?_ hI hS;clear hI;refine lU_ 0 ?_;refine lU_ 1 ?_;refine lU_ 2 ?_;refine lU_ 3 ?_;refine lU_ 4 ?_;refine eU_ fun hI=>?_;refine qrK (i:=5) hI rfl d_ rfl (fun K1 hK1=> ?_);go_simp;go_at_call 108
 refine HG.out.mono ?_;rintro e w4 hp;obtain⟨rfl,hp2⟩:=hp;have HPX:Hid (qrH B q 2 W1 (qd1 x t) (.returned (.tuple #[])) w4):=hI_ (qrH.pre HM1.out (qac HB3.out) ⟨rfl,hp2⟩);clear hp2;refine hK1.out _ _ (fun hI=> ?_);refine qrM d_ ?_;go_wp2_with fail
 obtain⟨d0,d1,d2⟩:=HPX.out.shut HB1.out HC0.out HC1.out HM0.out;refine leaves_cons (f:=106) (args:= #[.pointer (some ⟨q,0,none⟩)]) k_ ah_ ?_;refine(Go.MuLone.unlock_deferred qrX ⟨q,0,none⟩ .returning _ d0 d1).mono ?_;rintro e u' w5 ⟨rfl,rfl,rfl⟩;refine⟨_,results_none rfl _ _ _,?_⟩;exact d2
theorem qtk(x:Wd)(e:Ev)(q B:Nat)(vF vL vA vN:Value)(w:World)(h:MI B q 2 x w vF vL vA vN)(hv:WV x)(m0:w.cell? ⟨q,0,none⟩=some (.int .i32 0))(hk:e.kind=2∨e.kind=3):Calls Tryz.prog 52 #[.pointer (some ⟨q,0,none⟩),.agg (evC e)] w (qrH B q 2 w (qeh x e.a e.b (e.kind==2))):=by
 obtain⟨k,a,b,c,t⟩:=e;try simp only at hk ⊢
 have HCH:Hid (qt0 ⟨k,a,b,c,t⟩=.iface 149 (.agg #[.int .i64 a,.int .i64 b,.bool (k==2)])):=hI_ (by rcases hk with rfl|rfl <;> rfl);clear hk;obtain⟨up,HUP⟩:=nm_ ((k==2));rw[HUP.out] at HCH ⊢;unfold evC;have HM:=hI_ h;have HV:=hI_ hv;have HM0:=hI_ m0;have hq:=h.lt;have f0:w.frozen? ⟨q,0,none⟩=false:=h.bx.fz 0;obtain⟨W0,HW0⟩:=nm_ (w.alloc (.cells #[.int .i64 k,.int .i64 a,.int .i64 b,.int .i64 c,.string t] 30));obtain⟨p,HP⟩:=nm_ w.heap.size;have hb0:bB w W0:=by rw[←HW0.out];exact qab (bR_ _ _) _
 have hy0:W0.heap[p]? =some (.cells #[.int .i64 k,.int .i64 a,.int .i64 b,.int .i64 c,.string t] 30 (0,0)):=by rw[←HW0.out,←HP.out];exact heap_alloc_new _ _
 have n0:W0.cell? ⟨q,0,none⟩=some (.int .i32 0):=(hb0.cell (p:=⟨q,0,none⟩) hq).trans m0;have fz0:W0.frozen? ⟨q,0,none⟩=false:=(h.below hb0).bx.fz 0;obtain⟨W1,HW1⟩:=nm_ (W0.setCell ⟨q,0,none⟩ (.int .i32 1));have HM1:Hid (MI B q 2 x W1 vF vL vA vN):=hI_ Q_;have HB1:Hid (Below B w W1):=hI_ F_;have HC0:Hid (W1.cell? ⟨q,0,none⟩=some (.int .i32 1)):=hI_ N_;have HC1:Hid (W1.cell? ⟨q,1,none⟩=w.cell? ⟨q,1,none⟩):=hI_ y_;have hy1:W1.heap[p]? =some (.cells #[.int .i64 k,.int .i64 a,.int .i64 b,.int .i64 c,.string t] 30 (0,0)):=by rw[←HW1.out];exact(Below.heap_setCell _ _ _ _ ap_).trans hy0
 obtain⟨ec0,ec1,ec2,ec3,ec4,ecf⟩:=qrL hy1;clear h hv m0 f0 hy0 hy1 hb0;have ta0:=fun v w=>qrS 149 v w e_;have ta1:=fun v w=>qsl v w;go_enter_defers Tryz.func52,Tryz.ntmps52
 go_upto_region 1 with fail
 rw[HW0.out,HP.out];go_upto_region 2 with(go_at_call 105;refine(Go.MuLone.lock_free qrX ⟨q,0,none⟩ _ n0 fz0).mono ?_;rintro e W1' ⟨rfl,rfl⟩)
 rw[HW1.out];clear n0 fz0;go_wp2_with fail
 refine(qrT ⟨k,a,b,c,t⟩ W1).mono ?_;rintro e w2 ⟨rfl,hb2⟩;rw[HCH.out];have hm2:=HM1.out.below hb2;have hl2:=hm2.lt;clear ec0 ec1 ec2 ec3 ec4 ecf;have hn6:x.feeds.length≤maxLen:=by have:=HV.out.wi.n6;unfold maxLen;omega
 have HN6:=hI_ hn6;obtain⟨w3,HW3⟩:=nm_ (w2.alloc (.cells #[.int .i64 a,.int .i64 b,.bool up] 149));have hb3:bB W1 w3:=by rw[←HW3.out];exact qab hb2 _
 have hz3:w3.heap[w2.heap.size]? =some (.cells #[.int .i64 a,.int .i64 b,.bool up] 149 (0,0)):=by rw[←HW3.out];exact heap_alloc_new _ _
 have hm3:=HM1.out.below hb3;have hq3:=hm3.lt;have hz3l:=qai hz3;obtain⟨AF,cF,HAF⟩:∃ A c,Hid (vF=.slice A x.feeds.length c):=by
  obtain⟨A,c,h⟩:=hm3.p.F.r.sl;exact⟨A,c,hI_ h⟩
 have t2:w3.cell? ⟨q,2+2,none⟩=some (.slice AF x.feeds.length cF):=by rw[←HAF.out];exact hm3.bx.c2
 have HB3:=hI_ hb3;have HM3:=hI_ hm3;obtain⟨g0,g1,g2,gf⟩:=qaS hz3;have hup:=qap w3;obtain⟨va,HVA⟩:=nm_ (inB a 0 ((x.feeds.length:Int)-1));obtain⟨vb,HVB⟩:=nm_ (inB b 0 ((x.feeds.length:Int)-1));clear hb2 hm2 hb3 hz3 hn6 hm3 hl2;go_upto_region 9 with fail
 rw[HW3.out];have HEA:Hid (∀ X,Calls Tryz.prog 109 #[.pointer (some ⟨q,2,none⟩),.int .i64 a] (Go.Proofs.YtekaaekpdebloaaGreatDoor.up w3 X) fun e w'=>e=.returned (.bool va)∧Go.Proofs.YtekaaekpdebloaaGreatDoor.up w3 X=w'):=hI_ (fun X=>qtb q 2 x.feeds.length cF AF a _ HVA ((hup X q _ hq3).trans t2) HN6.out);have HEB:Hid (∀ X,Calls Tryz.prog 109 #[.pointer (some ⟨q,2,none⟩),.int .i64 b] (Go.Proofs.YtekaaekpdebloaaGreatDoor.up w3 X) fun e w'=>e=.returned (.bool vb)∧Go.Proofs.YtekaaekpdebloaaGreatDoor.up w3 X=w'):=hI_ (fun X=>qtb q 2 x.feeds.length cF AF b _ HVB ((hup X q _ hq3).trans t2) HN6.out);by_cases hok:(va&&vb&&decide (a≠b))=true;rotate_left
 · have HNO:Hid (qeh x a b up=x):=hI_ (quf (by
    rw[HVA.out,HVB.out];cases va
    · exact .inl rfl
    · cases vb
      · exact .inr (.inl rfl)
      · simp only[Bool.true_and,decide_eq_true_eq,Decidable.not_not] at hok;exact .inr (.inr hok)))
   refine qoH ?_;cases va
   · repeat(go_big_quiet_step ((go_at_call 109;exact qaj (HEA.out _))))
     refine wpQuiet_nil ?_;intro w4 hw4;have hb4:=qay hw4;have HPX:Hid (qrH B q 2 W1 x (.returned (.tuple #[])) w4):=hI_ (qrH.same HM1.out (HB3.out.trans (hb4.mono HB3.out.size)));clear hw4 hup;go_wp2_with fail
     rw[HNO.out];obtain⟨d0,d1,d2⟩:=HPX.out.shut HB1.out HC0.out HC1.out HM0.out;refine leaves_cons (f:=106) (args:= #[.pointer (some ⟨q,0,none⟩)]) k_ ah_ ?_;refine(Go.MuLone.unlock_deferred qrX ⟨q,0,none⟩ .returning _ d0 d1).mono ?_;rintro e u' w5 ⟨rfl,rfl,rfl⟩;refine⟨_,results_none rfl _ _ _,?_⟩;exact d2
   cases vb
   · repeat(go_big_quiet_step (first|(go_at_call_of 109 (Value.int .i64 a);exact qaj (HEA.out _))|(go_at_call_of 109 (Value.int .i64 b);exact qaj (HEB.out _))))
     refine wpQuiet_nil ?_;intro w4 hw4;have hb4:=qay hw4;have HPX:Hid (qrH B q 2 W1 x (.returned (.tuple #[])) w4):=hI_ (qrH.same HM1.out (HB3.out.trans (hb4.mono HB3.out.size)));clear hw4 hup;go_wp2_with fail
     rw[HNO.out];obtain⟨d0,d1,d2⟩:=HPX.out.shut HB1.out HC0.out HC1.out HM0.out;refine leaves_cons (f:=106) (args:= #[.pointer (some ⟨q,0,none⟩)]) k_ ah_ ?_;refine(Go.MuLone.unlock_deferred qrX ⟨q,0,none⟩ .returning _ d0 d1).mono ?_;rintro e u' w5 ⟨rfl,rfl,rfl⟩;refine⟨_,results_none rfl _ _ _,?_⟩;exact d2
   have hab:a=b:=by simpa using hok
   have hab2:(a !=b)=false:=by simp[hab]
   clear hok;repeat(go_big_quiet_step (first|(go_at_call_of 109 (Value.int .i64 a);exact qaj (HEA.out _))|(go_at_call_of 109 (Value.int .i64 b);exact qaj (HEB.out _))))
   refine wpQuiet_nil ?_;intro w4 hw4;have hb4:=qay hw4;have HPX:Hid (qrH B q 2 W1 x (.returned (.tuple #[])) w4):=hI_ (qrH.same HM1.out (HB3.out.trans (hb4.mono HB3.out.size)));clear hw4 hup;go_wp2_with fail
   rw[HNO.out];obtain⟨d0,d1,d2⟩:=HPX.out.shut HB1.out HC0.out HC1.out HM0.out;refine leaves_cons (f:=106) (args:= #[.pointer (some ⟨q,0,none⟩)]) k_ ah_ ?_;refine(Go.MuLone.unlock_deferred qrX ⟨q,0,none⟩ .returning _ d0 d1).mono ?_;rintro e u' w5 ⟨rfl,rfl,rfl⟩;refine⟨_,results_none rfl _ _ _,?_⟩;exact d2
 simp only[Bool.and_eq_true,decide_eq_true_eq] at hok;obtain⟨⟨rfl,rfl⟩,hab⟩:=hok;have hab2:(a !=b)=true:=by simpa using hab
 obtain⟨hmay,hbd⟩:=qs7 (x:=x) up HVA.out HVB.out hab;have HMAY:=hI_ hmay;have HBD:=hI_ hbd;clear hmay hbd hab;refine qoH ?_;repeat(go_big_quiet_step (first|(go_at_call_of 109 (Value.int .i64 a);exact qaj (HEA.out _))|(go_at_call_of 109 (Value.int .i64 b);exact qaj (HEB.out _))))
 refine wpQuiet_nil ?_;intro w4 hw4;have hb4:=qay hw4;have HB4:Hid (bB W1 w4):=hI_ (HB3.out.trans (hb4.mono HB3.out.size));replace g0:=(hb4.cell (p:=⟨w2.heap.size,0,none⟩) hz3l).trans g0;replace g1:=(hb4.cell (p:=⟨w2.heap.size,1,none⟩) hz3l).trans g1;replace g2:=(hb4.cell (p:=⟨w2.heap.size,2,none⟩) hz3l).trans g2;have HG:=hI_ (quB x a b up q 2 B _ _ _ _ (w4.drew) (HM1.out.below (qac HB4.out)) HV.out HMAY.out HBD.out);clear hw4 hup hb4 t2 gf;go_upto_region 10 with fail
 have d0:w4.drew.cell? ⟨w2.heap.size,0,none⟩=_:=g0;have d1:w4.drew.cell? ⟨w2.heap.size,1,none⟩=_:=g1;have d2:w4.drew.cell? ⟨w2.heap.size,2,none⟩=_:=g2;refine qrO (fun w'=>w'.cell? ⟨w2.heap.size,0,none⟩=some (.int .i64 a)∧w'.cell? ⟨w2.heap.size,1,none⟩=some (.int .i64 b)∧w'.cell? ⟨w2.heap.size,2,none⟩=some (.bool up)) (fun i=>decide (i<9)) d_ ⟨d0,d1,d2⟩ (fun hS hI=> ?_);refine gU_ ?_ hI hS;clear hI;refine lU_ 0 ?_;refine lU_ 1 ?_;refine lU_ 2 ?_;refine lU_ 3 ?_;refine lU_ 4 ?_;refine lU_ 5 ?_;refine lU_ 6 ?_;refine lU_ 7 ?_;refine lU_ 8 ?_;refine eU_ fun hI=>?_;refine qrK (i:=9) hI rfl d_ rfl (fun K1 hK1=> ?_);go_simp;go_at_call 110
 refine HG.out.mono ?_;rintro e w5 hp;obtain⟨rfl,hp2⟩:=hp;have HPX:Hid (qrH B q 2 W1 (qeh x a b up) (.returned (.tuple #[])) w5):=hI_ (qrH.pre HM1.out (qac HB4.out) ⟨rfl,hp2⟩);clear hp2 d0 d1 d2;refine hK1.out _ _ (fun hI=> ?_);refine qrM d_ ?_;go_wp2_with fail
 obtain⟨d0,d1,d2⟩:=HPX.out.shut HB1.out HC0.out HC1.out HM0.out;refine leaves_cons (f:=106) (args:= #[.pointer (some ⟨q,0,none⟩)]) k_ ah_ ?_;refine(Go.MuLone.unlock_deferred qrX ⟨q,0,none⟩ .returning _ d0 d1).mono ?_;rintro e u' w6 ⟨rfl,rfl,rfl⟩;refine⟨_,results_none rfl _ _ _,?_⟩;exact d2
theorem qtm(x:Wd)(e:Ev)(q B:Nat)(vF vL vA vN:Value)(w:World)(h:MI B q 2 x w vF vL vA vN)(hv:WV x)(m0:w.cell? ⟨q,0,none⟩=some (.int .i32 0))(hk:e.kind=4∨e.kind=5∨e.kind=6)(ht:e.txt.size≤maxLen):Calls Tryz.prog 52 #[.pointer (some ⟨q,0,none⟩),.agg (evC e)] w (qrH B q 2 w (wdo x e)):=by
 have HNO:Hid (qbk x e.a e.b=false→wdo x e=x):=hI_ (fun hh=>qtY hh hk);have HYES:Hid (wdo x e=qsP x e):=hI_ (qtz hk);obtain⟨y,HY⟩:=nm_ (wdo x e);rw[HY.out] at HNO HYES ⊢;obtain⟨k,a,b,c,t⟩:=e;try simp only at hk ht HNO HYES ⊢
 have HCH:Hid (qt0 ⟨k,a,b,c,t⟩=.iface 152 (.agg (evC ⟨k,a,b,c,t⟩))):=hI_ (by rcases hk with rfl|rfl|rfl <;> rfl);clear hk;unfold evC;have HM:=hI_ h;have HV:=hI_ hv;have HM0:=hI_ m0;have hq:=h.lt;have f0:w.frozen? ⟨q,0,none⟩=false:=h.bx.fz 0;obtain⟨W0,HW0⟩:=nm_ (w.alloc (.cells #[.int .i64 k,.int .i64 a,.int .i64 b,.int .i64 c,.string t] 30));obtain⟨p,HP⟩:=nm_ w.heap.size;have hb0:bB w W0:=by rw[←HW0.out];exact qab (bR_ _ _) _
 have hy0:W0.heap[p]? =some (.cells #[.int .i64 k,.int .i64 a,.int .i64 b,.int .i64 c,.string t] 30 (0,0)):=by rw[←HW0.out,←HP.out];exact heap_alloc_new _ _
 have n0:W0.cell? ⟨q,0,none⟩=some (.int .i32 0):=(hb0.cell (p:=⟨q,0,none⟩) hq).trans m0;have fz0:W0.frozen? ⟨q,0,none⟩=false:=(h.below hb0).bx.fz 0;obtain⟨W1,HW1⟩:=nm_ (W0.setCell ⟨q,0,none⟩ (.int .i32 1));have HM1:Hid (MI B q 2 x W1 vF vL vA vN):=hI_ Q_;have HB1:Hid (Below B w W1):=hI_ F_;have HC0:Hid (W1.cell? ⟨q,0,none⟩=some (.int .i32 1)):=hI_ N_;have HC1:Hid (W1.cell? ⟨q,1,none⟩=w.cell? ⟨q,1,none⟩):=hI_ y_;have hy1:W1.heap[p]? =some (.cells #[.int .i64 k,.int .i64 a,.int .i64 b,.int .i64 c,.string t] 30 (0,0)):=by rw[←HW1.out];exact(Below.heap_setCell _ _ _ _ ap_).trans hy0
 obtain⟨ec0,ec1,ec2,ec3,ec4,ecf⟩:=qrL hy1;clear h hv m0 f0 hy0 hy1 hb0;have ta0:=fun v w=>qrS 152 v w e_;have ta1:=fun v w=>qr0 152 v w e_;have ta2:=fun v w=>qso v w;go_enter_defers Tryz.func52,Tryz.ntmps52
 go_upto_region 1 with fail
 rw[HW0.out,HP.out];go_upto_region 2 with(go_at_call 105;refine(Go.MuLone.lock_free qrX ⟨q,0,none⟩ _ n0 fz0).mono ?_;rintro e W1' ⟨rfl,rfl⟩)
 rw[HW1.out];clear n0 fz0;go_wp2_with fail
 refine(qrT ⟨k,a,b,c,t⟩ W1).mono ?_;rintro e w2 ⟨rfl,hb2⟩;rw[HCH.out];unfold evC;have hm2:=HM1.out.below hb2;have hl2:=hm2.lt;clear ec0 ec1 ec2 ec3 ec4 ecf;obtain⟨w3,HW3⟩:=nm_ (w2.alloc (.cells #[.int .i64 k,.int .i64 a,.int .i64 b,.int .i64 c,.string t] 152));have hb3:bB W1 w3:=by rw[←HW3.out];exact qab hb2 _
 have hz3:w3.heap[w2.heap.size]? =some (.cells #[.int .i64 k,.int .i64 a,.int .i64 b,.int .i64 c,.string t] 152 (0,0)):=by rw[←HW3.out];exact heap_alloc_new _ _
 have hm3:=HM1.out.below hb3;have hq3:=hm3.lt;have hz3l:=qai hz3;have HB3:=hI_ hb3;have HM3:=hI_ hm3;obtain⟨g0,g1,g2,g3,g4,gf⟩:=qrL hz3;have hup:=qap w3;obtain⟨vl,HVL⟩:=nm_ (qbk x a b);have HCO:Hid (∀ X,Calls Tryz.prog 111 #[.pointer (some ⟨q,2,none⟩),.int .i64 a,.int .i64 b] (Go.Proofs.YtekaaekpdebloaaGreatDoor.up w3 X) fun e w'=>e=.returned (.bool vl)∧Below (Go.Proofs.YtekaaekpdebloaaGreatDoor.up w3 X).heap.size (Go.Proofs.YtekaaekpdebloaaGreatDoor.up w3 X) w'):=hI_ (fun X=>qsV x a b q 2 vL _ HVL ((hup X q _ hq3).trans hm3.bx.c3) (nL_ hq3 (qao w3 X).size) (hm3.p.L.r.below (qao w3 X)));have HTS:=hI_ ht;clear hb2 hm2 hb3 hz3 hm3 hl2 ht;go_upto_region 13 with fail
 rw[HW3.out];refine qoH ?_;repeat(go_big_quiet_step ((go_at_call 111;exact qal (HCO.out _))))
 refine wpQuiet_nil ?_;intro w4 hw4;have hb4:=qay hw4;have HB4:Hid (bB W1 w4):=hI_ (HB3.out.trans (hb4.mono HB3.out.size));cases vl
 · have HPX:Hid (qrH B q 2 W1 x (.returned (.tuple #[])) w4):=hI_ (qrH.same HM1.out HB4.out);have HR:=hI_ (HNO.out HVL.out);clear hw4 hup;go_wp2_with fail
   rw[HR.out];obtain⟨d0,d1,d2⟩:=HPX.out.shut HB1.out HC0.out HC1.out HM0.out;refine leaves_cons (f:=106) (args:= #[.pointer (some ⟨q,0,none⟩)]) k_ ah_ ?_;refine(Go.MuLone.unlock_deferred qrX ⟨q,0,none⟩ .returning _ d0 d1).mono ?_;rintro e u' w5 ⟨rfl,rfl,rfl⟩;refine⟨_,results_none rfl _ _ _,?_⟩;exact d2
 replace g0:=(hb4.cell (p:=⟨w2.heap.size,0,none⟩) hz3l).trans g0;replace g1:=(hb4.cell (p:=⟨w2.heap.size,1,none⟩) hz3l).trans g1;replace g2:=(hb4.cell (p:=⟨w2.heap.size,2,none⟩) hz3l).trans g2;replace g3:=(hb4.cell (p:=⟨w2.heap.size,3,none⟩) hz3l).trans g3;replace g4:=(hb4.cell (p:=⟨w2.heap.size,4,none⟩) hz3l).trans g4;have HG:=hI_ (qtS x ⟨k,a,b,c,t⟩ q 2 B _ _ _ _ (w4.drew) (HM1.out.below (qac HB4.out)) HV.out HVL.out HTS.out);unfold evC at HG;clear hw4 hup hb4 gf;go_upto_region 14 with fail
 have d0:w4.drew.cell? ⟨w2.heap.size,0,none⟩=_:=g0;have d1:w4.drew.cell? ⟨w2.heap.size,1,none⟩=_:=g1;have d2:w4.drew.cell? ⟨w2.heap.size,2,none⟩=_:=g2;have d3:w4.drew.cell? ⟨w2.heap.size,3,none⟩=_:=g3;have d4:w4.drew.cell? ⟨w2.heap.size,4,none⟩=_:=g4;refine qrO (fun w'=>w'.cell? ⟨w2.heap.size,0,none⟩=some (.int .i64 k)∧w'.cell? ⟨w2.heap.size,1,none⟩=some (.int .i64 a)∧w'.cell? ⟨w2.heap.size,2,none⟩=some (.int .i64 b)∧w'.cell? ⟨w2.heap.size,3,none⟩=some (.int .i64 c)∧w'.cell? ⟨w2.heap.size,4,none⟩=some (.string t)) (fun i=>decide (i<5)) d_ ⟨d0,d1,d2,d3,d4⟩ (fun hS hI=> ?_);refine gU_ ?_ hI hS;clear hI;refine lU_ 0 ?_;refine lU_ 1 ?_;refine lU_ 2 ?_;refine lU_ 3 ?_;refine lU_ 4 ?_;refine eU_ fun hI=>?_;refine qrK (i:=5) hI rfl d_ rfl (fun K1 hK1=> ?_);go_simp;go_at_call 112
 refine HG.out.mono ?_;rintro e w5 hp;obtain⟨rfl,hp2⟩:=hp;have HPX:Hid (qrH B q 2 W1 (qsP x ⟨k,a,b,c,t⟩) (.returned (.tuple #[])) w5):=hI_ (qrH.pre HM1.out (qac HB4.out) ⟨rfl,hp2⟩);clear hp2 d0 d1 d2 d3 d4;refine hK1.out _ _ (fun hI=> ?_);refine qrM d_ ?_;go_wp2_with fail
 obtain⟨d0,d1,d2⟩:=HPX.out.shut HB1.out HC0.out HC1.out HM0.out;refine leaves_cons (f:=106) (args:= #[.pointer (some ⟨q,0,none⟩)]) k_ ah_ ?_;refine(Go.MuLone.unlock_deferred qrX ⟨q,0,none⟩ .returning _ d0 d1).mono ?_;rintro e u' w6 ⟨rfl,rfl,rfl⟩;refine⟨_,results_none rfl _ _ _,?_⟩;rw[HYES.out];exact d2
theorem qtF(x:Wd)(e:Ev)(q B:Nat)(vF vL vA vN:Value)(w:World)(h:MI B q 2 x w vF vL vA vN)(hv:WV x)(m0:w.cell? ⟨q,0,none⟩=some (.int .i32 0))(hk:e.kind=7∨e.kind=8)(he:qsC w)(h1B:1≤B):Calls Tryz.prog 52 #[.pointer (some ⟨q,0,none⟩),.agg (evC e)] w (qrH B q 2 w (qgz x e.a (e.kind==8))):=by
 have HER:=hI_ he;have HH1B:=hI_ h1B;clear he h1B;obtain⟨k,a,b,c,t⟩:=e;try simp only at hk ⊢
 have HCH:Hid (qt0 ⟨k,a,b,c,t⟩=.iface 155 (.agg #[.int .i64 a,.bool (k==8)])):=hI_ (by rcases hk with rfl|rfl <;> rfl);clear hk;obtain⟨lost,HUP⟩:=nm_ ((k==8));rw[HUP.out] at HCH ⊢;unfold evC;have HM:=hI_ h;have HV:=hI_ hv;have HM0:=hI_ m0;have hq:=h.lt;have f0:w.frozen? ⟨q,0,none⟩=false:=h.bx.fz 0;obtain⟨W0,HW0⟩:=nm_ (w.alloc (.cells #[.int .i64 k,.int .i64 a,.int .i64 b,.int .i64 c,.string t] 30));obtain⟨p,HP⟩:=nm_ w.heap.size;have hb0:bB w W0:=by rw[←HW0.out];exact qab (bR_ _ _) _
 have hy0:W0.heap[p]? =some (.cells #[.int .i64 k,.int .i64 a,.int .i64 b,.int .i64 c,.string t] 30 (0,0)):=by rw[←HW0.out,←HP.out];exact heap_alloc_new _ _
 have n0:W0.cell? ⟨q,0,none⟩=some (.int .i32 0):=(hb0.cell (p:=⟨q,0,none⟩) hq).trans m0;have fz0:W0.frozen? ⟨q,0,none⟩=false:=(h.below hb0).bx.fz 0;obtain⟨W1,HW1⟩:=nm_ (W0.setCell ⟨q,0,none⟩ (.int .i32 1));have HM1:Hid (MI B q 2 x W1 vF vL vA vN):=hI_ Q_;have HB1:Hid (Below B w W1):=hI_ F_;have HC0:Hid (W1.cell? ⟨q,0,none⟩=some (.int .i32 1)):=hI_ N_;have HC1:Hid (W1.cell? ⟨q,1,none⟩=w.cell? ⟨q,1,none⟩):=hI_ y_;have hy1:W1.heap[p]? =some (.cells #[.int .i64 k,.int .i64 a,.int .i64 b,.int .i64 c,.string t] 30 (0,0)):=by rw[←HW1.out];exact(Below.heap_setCell _ _ _ _ ap_).trans hy0
 obtain⟨ec0,ec1,ec2,ec3,ec4,ecf⟩:=qrL hy1;clear h hv m0 f0 hy0 hy1 hb0;have ta0:=fun v w=>qrS 155 v w e_;have ta1:=fun v w=>qr0 155 v w e_;have ta2:=fun v w=>qsj 155 v w e_;have ta3:=fun v w=>qsy v w;go_enter_defers Tryz.func52,Tryz.ntmps52
 go_upto_region 1 with fail
 rw[HW0.out,HP.out];go_upto_region 2 with(go_at_call 105;refine(Go.MuLone.lock_free qrX ⟨q,0,none⟩ _ n0 fz0).mono ?_;rintro e W1' ⟨rfl,rfl⟩)
 rw[HW1.out];clear n0 fz0;go_wp2_with fail
 refine(qrT ⟨k,a,b,c,t⟩ W1).mono ?_;rintro e w2 ⟨rfl,hb2⟩;rw[HCH.out];have hm2:=HM1.out.below hb2;have hl2:=hm2.lt;clear ec0 ec1 ec2 ec3 ec4 ecf;have hn12:x.net.length≤12:=HV.out.nn;have hW12:=hb2.size;have hqw:q<w2.heap.size:=nL_ HM1.out.lt hW12;obtain⟨w3,HW3⟩:=nm_ (w2.alloc (.cells #[.int .i64 a,.bool lost] 155));have hb3:bB W1 w3:=by rw[←HW3.out];exact qab hb2 _
 have hz3:w3.heap[w2.heap.size]? =some (.cells #[.int .i64 a,.bool lost] 155 (0,0)):=by rw[←HW3.out];exact heap_alloc_new _ _
 have hm3:=HM1.out.below hb3;have hq3:=hm3.lt;have hz3l:=qai hz3;obtain⟨AN,cN,HAN⟩:∃ A c,Hid (vN=.slice A x.net.length c):=by
  obtain⟨A,c,h⟩:=hm3.p.N.r.sl;exact⟨A,c,hI_ h⟩
 have t5:w3.cell? ⟨q,2+5,none⟩=some (.slice AN x.net.length cN):=by rw[←HAN.out];exact hm3.bx.c5
 have HB3:=hI_ hb3;have HM3:=hI_ hm3;obtain⟨g0,g1,gf⟩:=qaH hz3;obtain⟨va,HVA⟩:=nm_ (inB a 0 ((x.net.length:Int)-1));have hup:=qap w3;clear hb2 hm2 hb3 hz3 hm3 hl2;go_upto_region 17 with fail
 rw[HW3.out];refine qoH ?_;repeat(go_big_quiet_step ((go_at_call 113;exact qaj (qbe HVA _))))
 refine wpQuiet_nil ?_;intro w4 hw4;have hb4:=qay hw4;have HB4:Hid (bB W1 w4):=hI_ (HB3.out.trans (hb4.mono HB3.out.size));cases va
 · have HPX:Hid (qrH B q 2 W1 x (.returned (.tuple #[])) w4):=hI_ (qrH.same HM1.out HB4.out);have HR:=hI_ (qut (lost:=lost) HVA.out);clear hw4 hup;go_wp2_with fail
   rw[HR.out];obtain⟨d0,d1,d2⟩:=HPX.out.shut HB1.out HC0.out HC1.out HM0.out;refine leaves_cons (f:=106) (args:= #[.pointer (some ⟨q,0,none⟩)]) k_ ah_ ?_;refine(Go.MuLone.unlock_deferred qrX ⟨q,0,none⟩ .returning _ d0 d1).mono ?_;rintro e u' w5 ⟨rfl,rfl,rfl⟩;refine⟨_,results_none rfl _ _ _,?_⟩;exact d2
 obtain⟨i,rfl⟩:∃ i:Nat,a=i:=⟨a.toNat,by have:=qak.1 HVA.out;omega⟩
 have hi:i<x.net.length:=by have:=qak.1 HVA.out;omega
 have hi':(i:Int)<(x.net.length:Int):=a_;have hi0:(0:Int)≤(i:Int):=a_;have HR:=hI_ (que (lost:=lost) hi);replace g0:=(hb4.cell (p:=⟨w2.heap.size,0,none⟩) hz3l).trans g0;replace g1:=(hb4.cell (p:=⟨w2.heap.size,1,none⟩) hz3l).trans g1;replace t5:=(hb4.cell (p:=⟨q,2+5,none⟩) hq3).trans t5;have hz4l:=nL_ hz3l hb4.size;have hm4:=HM1.out.below HB4.out;obtain⟨bN,rfl⟩:∃ b,AN=some ⟨b,0,none⟩:=by
  obtain⟨_,F,k1,_⟩:=hm4.p.N;obtain⟨b,c,k2,_⟩:=k1.form a_;rw[HAN.out] at k2;injection k2 with k3 _ _
  exact⟨b,k3⟩
 have hp4:=hm4.p.N;rw[HAN.out] at hp4;obtain⟨vp,e0,e1,e2,e3,e4,e5,hRI,hBb,hbN,_⟩:=hp4.get hi;have hbW:bN<W1.heap.size:=by
  have h7:=HM1.out.p.N.1;rw[HAN.out] at h7;exact h7 bN rfl
 have HPO:=hI_ (quI HV.out hi);obtain⟨pf,pt,pl,pi,px,pr,HPC⟩:∃ a b c d e f,Hid (x.net[i]=⟨a,b,c,d,e,f⟩):=⟨_,_,_,_,_,_,hI_ rfl⟩
 rw[HPC.out] at e0 e1 e2 e3 e4 hRI HR HPO;obtain⟨pA,pc,rfl⟩:=hRI.sl;have HRI:=hI_ hRI;have HM4:=hI_ hm4;have htm:px.size≤9223372036854775807:=by have:=HPO.out.2;simp only at this;omega
 clear hw4 hup hm4 hp4 hRI gf;go_upto_region 18 with fail
 have d5:w4.drew.cell? ⟨q,2+5,none⟩=_:=t5;have d0:w4.drew.cell? ⟨w2.heap.size,0,none⟩=_:=g0;have y0:w4.drew.cell? ⟨bN,i*6,none⟩=_:=e0;have y1:w4.drew.cell? ⟨bN,i*6+1,none⟩=_:=e1;have y2:w4.drew.cell? ⟨bN,i*6+2,none⟩=_:=e2;have y3:w4.drew.cell? ⟨bN,i*6+3,none⟩=_:=e3;have y4:w4.drew.cell? ⟨bN,i*6+4,none⟩=_:=e4;have y5:w4.drew.cell? ⟨bN,i*6+5,none⟩=_:=e5;refine qrO (fun w'=>w'.cell? ⟨q,2+5,none⟩=some (.slice (some ⟨bN,0,none⟩) x.net.length cN)∧w'.cell? ⟨w2.heap.size,0,none⟩=some (.int .i64 (i:Int))∧w'.cell? ⟨bN,i*6,none⟩=some (.int .i64 pf)∧w'.cell? ⟨bN,i*6+1,none⟩=some (.int .i64 pt)∧w'.cell? ⟨bN,i*6+2,none⟩=some (.int .i64 pl)∧w'.cell? ⟨bN,i*6+3,none⟩=some (.int .i64 pi)∧w'.cell? ⟨bN,i*6+4,none⟩=some (.string px)∧w'.cell? ⟨bN,i*6+5,none⟩=some (.slice pA pr.length pc)) (fun i=>decide (i<10)) d_ ⟨d5,d0,y0,y1,y2,y3,y4,y5⟩ (fun hS hI=> ?_);clear d5 d0 y0 y1 y2 y3 y4 y5;refine gU_ ?_ hI hS;clear hI;refine lU_ 0 ?_;refine lU_ 1 ?_;refine lU_ 2 ?_;refine lU_ 3 ?_;refine lU_ 4 ?_;refine lU_ 5 ?_;refine lU_ 6 ?_;refine lU_ 7 ?_;refine lU_ 8 ?_;refine eU_ fun hI=>?_;have hb5:bB w4 (w4.drew.alloc (.cells #[.int .i64 0,.int .i64 0,.int .i64 0,.int .i64 0,.string ⟨#[]⟩,.slice none 0 0] 57)):=qab (qac (bR_ _ _)) _;refine qrQ (i:=9) hI rfl d_ (fun K1 hK1=> ?_);go_simp;refine hK1.out _ _ ⟨(hb5.cell (p:=⟨q,2+5,none⟩) (nL_ hq3 hb4.size)).trans t5,(hb5.cell (p:=⟨w2.heap.size,0,none⟩) hz4l).trans g0,(hb5.cell (p:=⟨bN,i*6,none⟩) hbN).trans e0,(hb5.cell (p:=⟨bN,i*6+1,none⟩) hbN).trans e1,(hb5.cell (p:=⟨bN,i*6+2,none⟩) hbN).trans e2,(hb5.cell (p:=⟨bN,i*6+3,none⟩) hbN).trans e3,(hb5.cell (p:=⟨bN,i*6+4,none⟩) hbN).trans e4,(hb5.cell (p:=⟨bN,i*6+5,none⟩) hbN).trans e5⟩ (fun hI=> ?_);refine qrK (i:=10) hI rfl d_ rfl (fun K2 hK2=> ?_);go_simp;obtain⟨W5,HW5⟩:=nm_ ((w4.alloc (.cells #[.int .i64 pf,.int .i64 pt,.int .i64 pl,.int .i64 pi,.string px,.slice pA pr.length pc] 57)).drew);rw[HW5.out];refine hK2.out _ _ (fun hI=> ?_);refine qrM d_ ?_;have hb45:bB w4 W5:=by rw[←HW5.out];exact qac (qab (bR_ _ _) _)
 have hy5:W5.heap[w4.heap.size]? =some (.cells #[.int .i64 pf,.int .i64 pt,.int .i64 pl,.int .i64 pi,.string px,.slice pA pr.length pc] 57 (0,0)):=by rw[←HW5.out];exact qbI (heap_alloc_new _ _)
 have HB5:Hid (bB W1 W5):=hI_ (HB4.out.trans (hb45.mono HB4.out.size));have hq4:q<w4.heap.size:=nL_ hq3 hb4.size;replace g0:=(hb45.cell (p:=⟨w2.heap.size,0,none⟩) hz4l).trans g0;replace g1:=(hb45.cell (p:=⟨w2.heap.size,1,none⟩) hz4l).trans g1;replace t5:=(hb45.cell (p:=⟨q,2+5,none⟩) hq4).trans t5;have HRI5:=hI_ (HRI.out.below hb45);have HY5:=hI_ hy5;have hl5:=qai hy5;have hz5l:=nL_ hz4l hb45.size;have hq5:=nL_ hq4 hb45.size;have hbw2:bN<w2.heap.size:=nL_ hbW hW12;have hw1:IntKind.i64.wrap ((i:Int)+1)=(i:Int)+1:=by rw[IntKind.wrap_i64];omega
 have HDEL:Hid (∀ W,bB W5 W→Calls Tryz.prog 114 #[.slice (some ⟨bN,0,none⟩) x.net.length cN,.int .i64 (i:Int),.int .i64 ((i:Int)+1)] W fun e w'=>∃ v',e=.returned v'∧qbd B w'.heap.size w' v' (x.net.eraseIdx i)∧W.grownBy w' (some bN)):=hI_ (fun W hW=>by
  have h7:=(HM1.out.below (HB5.out.trans (hW.mono HB5.out.size))).p.N;rw[HAN.out] at h7;exact qtK x.net i B _ _ W h7 hi)
 have HQN:Hid (∀ W w8,bB W5 W→W.grownBy w8 (some bN)→w8.heap[q]? =W.heap[q]? ∧w8.frozen? ⟨q,2+5,none⟩=false):=hI_ (fun W w8 hW hg=>by
  have h7:=HM1.out.below (HB5.out.trans (hW.mono HB5.out.size));have h8:=h7.p.N;rw[HAN.out] at h8;obtain⟨_,F,k1,_⟩:=h8;obtain⟨cur,k2⟩:=k1.row0 bN rfl;have hqb:=h7.bx.row k2 e_;have e1:w8.heap[q]? =W.heap[q]? :=hg.block q h7.lt (fun e=>by cases e;exact hqb rfl);exact⟨e1,(h7.bx.heap e1).fz _⟩)
 clear e0 e1 e2 e3 e4 e5 hb45 hy5;go_upto_region 19 with fail
 have d5:W5.drew.cell? ⟨q,2+5,none⟩=_:=t5;have d0:W5.drew.cell? ⟨w2.heap.size,0,none⟩=_:=g0;have d1:W5.drew.cell? ⟨w2.heap.size,1,none⟩=_:=g1;refine qrO (fun w'=>w'.cell? ⟨q,2+5,none⟩=some (.slice (some ⟨bN,0,none⟩) x.net.length cN)∧w'.cell? ⟨w2.heap.size,0,none⟩=some (.int .i64 (i:Int))) (fun i=>decide (0<i)&&decide (i<11)) d_ ⟨d5,d0⟩ (fun hS hI=> ?_);refine gU_ ?_ hI hS;clear hI;refine lF_ 0 ?_;refine lU_ 1 ?_;refine lU_ 2 ?_;refine lU_ 3 ?_;refine lU_ 4 ?_;refine lU_ 5 ?_;refine lU_ 6 ?_;refine lU_ 7 ?_;refine lU_ 8 ?_;refine lU_ 9 ?_;refine lU_ 10 ?_;refine eU_ fun hI=>?_;refine qrK (i:=11) hI rfl d_ rfl (fun K3 hK3=> ?_);go_simp;go_at_call 114
 refine(HDEL.out _ (qac (bR_ _ _))).mono ?_;rintro e w8 ⟨v8,rfl,hp8,hg8⟩;obtain⟨A8,n8,c8,rfl⟩:∃ A n c,v8=.slice A n c:=by obtain⟨A,c,h⟩:=hp8.r.sl;exact⟨A,_,c,h⟩
 obtain⟨hq8,fz8⟩:=HQN.out _ _ (qac (bR_ _ _)) hg8;have c58:=(World.cell?_of_block (a:=⟨q,2+5,none⟩) hq8).trans d5;have hmp:qrH B q 2 W1 {x with net:=x.net.eraseIdx i} (.returned (.tuple #[])) (w8.setCell ⟨q,2+5,none⟩ (.slice A8 n8 c8)):=HM1.out.netPost (qac HB5.out) (by rw[HAN.out];exact hg8) hp8;refine hK3.out _ _ (fun hI=> ?_);refine gF_ ?_ hI;clear hI;refine lG_ 12 ?_;refine lG_ 13 ?_;refine lG_ 14 ?_;refine eF_ fun hI=>?_;refine qrK (i:=15) hI rfl d_ rfl (fun K4 hK4=> ?_);go_simp;obtain⟨w6,HW6⟩:=nm_ (w8.setCell ⟨q,2+5,none⟩ (.slice A8 n8 c8));have hy6:w6.heap[w4.heap.size]? =some (.cells #[.int .i64 pf,.int .i64 pt,.int .i64 pl,.int .i64 pi,.string px,.slice pA pr.length pc] 57 (0,0)):=by
  rw[←HW6.out];exact(Below.heap_setCell _ _ _ _ ac_).trans ((hg8.block _ hl5 (fun e=>by cases e;omega)).trans HY5.out)
 have hg6:w6.cell? ⟨w2.heap.size,1,none⟩=some (.bool lost):=by
  rw[←HW6.out,World.cell?_setCell_far _ _ _ _ ac_];exact(World.cell?_of_block (hg8.block w2.heap.size hz5l (fun e=>by cases e;omega))).trans g1
 rw[HW6.out] at hmp ⊢;have HMP:=hI_ hmp;have HRI6:Hid (O1 (Value.int .i64) B 3 w6 (.slice pA pr.length pc) pr):=hI_ (by
  have h7:=(HM1.out.below (qac HB5.out)).p.N;rw[HAN.out] at h7;obtain⟨_,F,k1,_⟩:=h7;have k2:qaA [3] W5.drew w8:=qaA.of_grown hg8 (fun r hr=>by cases hr;obtain⟨cur,fr,hh⟩:=k1.row bN rfl;exact⟨cur,_,fr,hh,e_⟩);have k3:=HRI5.out.below (qac (bR_ W5.heap.size W5));have k4:=k3.keepT k2 e_;rw[←HW6.out];obtain⟨cur,t,k5,k6⟩:=(HM1.out.below (qac HB5.out)).bx.ty;exact k4.keepT (qaA.set1 (T:=LT2) (hq8.trans k5) k6 _) e_)
 refine hK4.out _ _ (fun hI=> ?_);refine qrM d_ ?_;clear hmp hp8 hg8 hq8 fz8 c58 d0 d1 d5 g0 t5 g1;cases lost
 rotate_left
 · have HPX:Hid (qrH B q 2 W1 {x with net:=x.net.eraseIdx i} (.returned (.tuple #[])) w6):=HMP;clear hy6;go_wp2_with fail
   rw[HR.out,if_pos trivial];obtain⟨d0,d1,d2⟩:=HPX.out.shut HB1.out HC0.out HC1.out HM0.out;refine leaves_cons (f:=106) (args:= #[.pointer (some ⟨q,0,none⟩)]) k_ ah_ ?_;refine(Go.MuLone.unlock_deferred qrX ⟨q,0,none⟩ .returning _ d0 d1).mono ?_;rintro e u' w5 ⟨rfl,rfl,rfl⟩;refine⟨_,results_none rfl _ _ _,?_⟩;exact d2
 obtain⟨_,aF,aL,aA,aN,hm6,hbb6,hcc6⟩:=HMP.out;obtain⟨y0,y1,y2,y3,y4,y5,yf⟩:=qaa hy6;obtain⟨⟨j,hj1,hj2⟩,hpx⟩:=HPO.out;simp only at hj1 hpx;subst hj1;have HG:=hI_ (qtL {x with net:=x.net.eraseIdx i} pf pl pi px pr _ j q 2 B _ _ _ _ (w6.drew) (hm6.below (qac (bR_ _ _))) (HV.out.erase i) hj2 s_ (HRI6.out.below (qac (bR_ _ _))).r1 (HER.out.next HH1B.out (HB1.out.trans (hbb6.drew))) HH1B.out);have HM6:=hI_ hm6;clear hm6 hbb6 hcc6 hy6;go_upto_region 21 with fail
 have d0:w6.drew.cell? ⟨w4.heap.size,0,none⟩=_:=y0;have d1:w6.drew.cell? ⟨w4.heap.size,1,none⟩=_:=y1;have d2:w6.drew.cell? ⟨w4.heap.size,2,none⟩=_:=y2;have d3:w6.drew.cell? ⟨w4.heap.size,3,none⟩=_:=y3;have d4:w6.drew.cell? ⟨w4.heap.size,4,none⟩=_:=y4;have d5:w6.drew.cell? ⟨w4.heap.size,5,none⟩=_:=y5;refine qrO (fun w'=>w'.cell? ⟨w4.heap.size,0,none⟩=some (.int .i64 pf)∧w'.cell? ⟨w4.heap.size,1,none⟩=some (.int .i64 (j:Int))∧w'.cell? ⟨w4.heap.size,2,none⟩=some (.int .i64 pl)∧w'.cell? ⟨w4.heap.size,3,none⟩=some (.int .i64 pi)∧w'.cell? ⟨w4.heap.size,4,none⟩=some (.string px)∧w'.cell? ⟨w4.heap.size,5,none⟩=some (.slice pA pr.length pc)) (fun i=>decide (i<4)) d_ ⟨d0,d1,d2,d3,d4,d5⟩ (fun hS hI=> ?_);refine gU_ ?_ hI hS;clear hI;refine lU_ 0 ?_;refine lU_ 1 ?_;refine lU_ 2 ?_;refine lU_ 3 ?_;refine eU_ fun hI=>?_;refine qrK (i:=4) hI rfl d_ rfl (fun K5 hK5=> ?_);go_simp;go_at_call 115
 refine HG.out.mono ?_;rintro e w7 hp;obtain⟨rfl,hp2⟩:=hp;have HPX:=hI_ (HMP.out.next (qrH.pre HM6.out (qac (bR_ _ _)) ⟨rfl,hp2⟩));clear hp2 d0 d1 d2 d3 d4 d5;refine hK5.out _ _ (fun hI=> ?_);refine qrM d_ ?_;go_wp2_with fail
 rw[HR.out,if_neg k_];obtain⟨d0,d1,d2⟩:=HPX.out.shut HB1.out HC0.out HC1.out HM0.out;refine leaves_cons (f:=106) (args:= #[.pointer (some ⟨q,0,none⟩)]) k_ ah_ ?_;refine(Go.MuLone.unlock_deferred qrX ⟨q,0,none⟩ .returning _ d0 d1).mono ?_;rintro e u' w9 ⟨rfl,rfl,rfl⟩;refine⟨_,results_none rfl _ _ _,?_⟩;exact d2
end Go.Proofs.YtekaaekpdebloaaGreatDoor

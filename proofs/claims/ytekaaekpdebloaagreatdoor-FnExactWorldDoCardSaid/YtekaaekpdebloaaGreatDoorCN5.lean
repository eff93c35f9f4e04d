/- Words and walks of the law. -/
import Derived.Test.YtekaaekpdebloaaGreatDoorCM5
import Derived.LaidEql
import Derived.Stop.Asserts
set_option linter.unusedVariables false
set_option linter.unusedSimpArgs false
set_option maxHeartbeats 12800000
set_option maxRecDepth 100000
namespace Go.Proofs.YtekaaekpdebloaaGreatDoor
open Go.RowKit
attribute [local go_sem ↓] Go.wp_at_zero Go.wp_at_succ

def quk(k:Nat):List Value:=(Builtin.zeroCells (Value.agg #[.int .i64 0,.int .i64 0,.int .i64 0,.int .i64 0,.string ⟨#[]⟩,.slice none 0 0]).cells k).toList
theorem qr8(k:Nat):(quk k).length=k*6:=by unfold quk;simp[Builtin.zeroCells,Value.cells]
theorem qug(k:Nat):∀ v ∈ quk k,v.oneCell'=true:=by
 unfold quk;intro v hv;simp[Builtin.zeroCells,Value.cells] at hv;obtain⟨i,_,rfl⟩:=hv;have h2:i%6<6:=Nat.mod_lt _ e_;generalize i%6=j at h2
 obtain rfl|rfl|rfl|rfl|rfl|rfl:j=0∨j=1∨j=2∨j=3∨j=4∨j=5:=a_;all_goals rfl
theorem qtB(w:World):(zeroValue 57).run Tryz.prog w=.ok (.agg #[.int .i64 0,.int .i64 0,.int .i64 0,.int .i64 0,.string ⟨#[]⟩,.slice none 0 0]) w:=by kernel_rfl
def qsp(F:Nat→Value)(o m:Nat):List Value:=(List.range m).map (fun t=>F (o+t))
theorem qto(F:Nat→Value)(o m:Nat):(qsp F o m).length=m:=by simp[qsp]
theorem qsq(F:Nat→Value)(o m j:Nat)(h:j<m):(qsp F o m)[j]? =some (F (o+j)):=by simp[qsp,h]
theorem qsY(n i B:Nat)(F:Nat→Value)(v:Value)(w:World)(hv:ON 6 B 57 w v n F)(hF:∀ t,t<n*6→(F t).oneCell'=true)(hi:i<n):
 Calls Tryz.prog 114 #[v,.int .i64 (i:Int),.int .i64 ((i:Int)+1)] w fun e w'=>∃ v',e=.returned v'∧ON 6 B 57 w' v' (n-1) (fun t=>if t<i*6 then F t else F (t+6))∧w.grownBy w' v.ownBlock:=by
 have HV:=hI_ hv;have HF:=hI_ hF;have hm:=hv.rn.len;unfold maxLen at hm;obtain⟨g,c,rfl,hgB,hgs⟩:=hv.form a_;have hcap:n≤c∧c≤9223372036854775807:=by
  obtain⟨_,_,h0,h1,h2,_⟩:=hv.rn;cases h0
  unfold maxLen at h2;exact⟨h1.1,h2⟩
 obtain⟨hc1,hc2⟩:=hcap;obtain⟨m,HM⟩:∃ m,Hid (n=i+1+m):=⟨n-(i+1),hI_ a_⟩
 rw[HM.out] at hc1 hm ⊢;have hne:((i:Int)==(i:Int)+1)=false:=by rw[beq_eq_false_iff_ne];omega
 have hic:i≤c:=a_;have hi1:i+1≤i+1+m:=a_;have hms:i+1+m-(i+m)=1:=a_;have hq0:(i:Int)≤(i:Int)+1:=a_;have hq1:(0:Int)≤(i:Int)+1:=a_;have hq2:(i:Int)+1≤(i:Int)+1+(m:Int):=a_;obtain⟨XS,HXS⟩:=nm_ (qsp F ((i+1)*6) (m*6));have hxl:XS.length=m*6:=by rw[←HXS.out,qto]
 have hx1:∀ u ∈ XS,u.oneCell'=true:=by
  rw[←HXS.out];intro u hu;simp only[qsp,List.mem_map,List.mem_range] at hu;obtain⟨t,ht,rfl⟩:=hu;exact HF.out _ S_
 obtain⟨i0,hi0,hz0,hz1,hz2⟩:=info_parts qd8;have hrun:∀ (ad:Addr) (c2:Nat),(m=0∨ad=⟨g,(i+1)*6,none⟩)→(Builtin.append_ #[26,26] 26 #[.slice (some ⟨g,0,none⟩) i c,.slice (some ad) m c2]).run Tryz.prog w.drew=.ok (.slice (some ⟨g,0,none⟩) (i+m) c) (w.drew.setCells g (i*6) XS):=fun ad c2 hor=>by
  have:=run_append_room_cells (P:=Tryz.prog) w.drew 26 26 57 i0 Tryz.underlying26 hi0 g 0 i c ad m c2 XS (by rw[hxl,hz1]) (fun j u hj=> ?_) hx1 a_ (fun j hj=>by rw[hxl] at hj;rw[hz1,Nat.zero_add,show w.drew.cell? ⟨g,i*6+j,none⟩=_ from(HV.out.at_ (t:=i*6+j) S_).1];rfl) (fun j hj=>by rw[hxl] at hj;rw[hz1,Nat.zero_add];exact(HV.out.at_ (t:=i*6+j) S_).2)
  · rw[hz1,Nat.zero_add] at this;exact this
  · have hj1:=(List.getElem?_eq_some_iff.1 hj).1;rw[hxl] at hj1;rcases hor with h0|rfl
    · omega
    · rw[←HXS.out,qsq _ _ _ _ hj1] at hj;cases hj
      rw[Addr.add_lit];exact(HV.out.at_ (t:=(i+1)*6+j) S_).1
 have hover:=(HV.out.below (qac (bR_ w.heap.size w))).setCells XS (i*6) _ _ (by rw[hxl,HM.out];omega);obtain⟨W1,HW1⟩:=nm_ (w.drew.setCells g (i*6) XS);rw[HW1.out] at hover;have hcs:=hover.1.setCells (quk 1) ((i+m)*6) _ _ (by rw[qr8,HM.out];omega);have hcut:ON 6 B 57 (W1.setCells g ((i+m)*6) (quk 1)) (.slice (some ⟨g,0,none⟩) (i+m) c) (i+1+m-1) (fun t=>if t<i*6 then F t else F (t+6))∧W1.grownBy (W1.setCells g ((i+m)*6) (quk 1)) (some g):=by
  refine⟨?_,hcs.2⟩;rw[show i+1+m-1=i+m by omega];refine(hcs.1.take_ (m:=i+m) S_).congr fun t ht=> ?_;unfold putF;rw[qr8,hxl];rw[if_neg a_];by_cases h1:t<i*6
  · rw[if_neg a_,if_pos h1]
  · rw[if_pos a_,if_neg h1,List.getD_eq_getElem?_getD,←HXS.out,qsq _ _ _ _ a_];show F _=F _;congr 1;omega
 have hclear:=qr4 (P:=Tryz.prog) W1 26 57 0 (.agg #[.int .i64 0,.int .i64 0,.int .i64 0,.int .i64 0,.string ⟨#[]⟩,.slice none 0 0]) Tryz.underlying26 qtB g ((i+m)*6) 1 (c-(i+m)) a_ (quk 1) rfl (qug _) (fun t ht=>by rw[qr8] at ht;rw[(hover.1.at_ (t:=(i+m)*6+t) S_).1];rfl) (fun t ht=>by rw[qr8] at ht;exact(hover.1.at_ (t:=(i+m)*6+t) S_).2);have HCUT:=hI_ hcut;have HG1:=hI_ hover.2;have HRUN:=hI_ hrun;clear hv hrun hover hcut hcs hx1 hF;by_cases hm0:m=0
 · subst hm0;have HD:Hid (w.drew=W1):=hI_ (by rw[←HW1.out,List.length_eq_zero_iff.1 hxl];rfl);simp only[Nat.add_zero] at hclear;clear hxl;by_cases hce:c=i+1
   · subst hce;have hii:i+1-i=1:=a_;simp only[hii] at hclear;clear hii;go_enter Tryz.func114,Tryz.ntmps114
     go_wp2_with fail
     go_region_law (fail)
     rw[HD.out];go_wp2
     go_ret;exact⟨_,rfl,HCUT.out.1,qat (qat (qaP (qac (bR_ _ _))) HG1.out) HCUT.out.2⟩
   · skip
     go_enter Tryz.func114,Tryz.ntmps114
     go_wp2_with fail
     go_region_law (fail)
     rw[HD.out];go_wp2
     go_ret;exact⟨_,rfl,HCUT.out.1,qat (qat (qaP (qac (bR_ _ _))) HG1.out) HCUT.out.2⟩
 · have hce:¬ c=i+1:=a_;clear hxl;go_enter Tryz.func114,Tryz.ntmps114
   go_wp2_with fail
   go_region_law ((refine qa9 p_ (qtX _ _ _ _ _ p_ _ _ p_ p_ (HRUN.out _ _ (Or.inr rfl)) ?_)))
   rw[HW1.out];go_wp2
   go_ret;exact⟨_,rfl,HCUT.out.1,qat (qat (qaP (qac (bR_ _ _))) HG1.out) HCUT.out.2⟩
theorem qtK(ps:List Pc)(i B C:Nat)(v:Value)(w:World)(hv:qbd B C w v ps)(hi:i<ps.length):
 Calls Tryz.prog 114 #[v,.int .i64 (i:Int),.int .i64 ((i:Int)+1)] w fun e w'=>∃ v',e=.returned v'∧qbd B w'.heap.size w' v' (ps.eraseIdx i)∧w.grownBy w' v.ownBlock:=by
 obtain⟨h0,F,h1,h2,h3⟩:=hv;have hone:∀ t,t<ps.length*6→(F t).oneCell'=true:=fun t ht=>by
  obtain⟨g0,g1,g2,g3,g4,g5,_⟩:=h2 (t/6) a_;obtain⟨A,c,he⟩:=g5.sl;have h6:t%6<6:=Nat.mod_lt _ e_;obtain hr|hr|hr|hr|hr|hr:t%6=0∨t%6=1∨t%6=2∨t%6=3∨t%6=4∨t%6=5:=a_
  · rw[show t=t/6*6 by omega,g0];rfl
  · rw[show t=t/6*6+1 by omega,g1];rfl
  · rw[show t=t/6*6+2 by omega,g2];rfl
  · rw[show t=t/6*6+3 by omega,g3];rfl
  · rw[show t=t/6*6+4 by omega,g4];rfl
  · rw[show t=t/6*6+5 by omega,he];rfl
 refine(qsY ps.length i B F v w h1 hone hi).mono ?_;rintro e w' ⟨v',rfl,h4,hg⟩;have hk:qaA [3] w w':=qaA.of_grown hg (fun r hr=>by obtain⟨cur,fr,hh⟩:=h1.row r hr;exact⟨cur,_,fr,hh,e_⟩);have hCs:Up w'.heap.size v':=h4.up_;have hlen:(ps.eraseIdx i).length=ps.length-1:=List.length_eraseIdx_of_lt hi;refine⟨v',rfl,⟨hCs,_,by rw[hlen];exact h4,fun j hj=> ?_,fun a b hab hb k hk'=> ?_⟩,hg⟩
 · rw[hlen] at hj;rw[List.getElem_eraseIdx];by_cases hji:j<i
   · obtain⟨g0,g1,g2,g3,g4,g5,g6⟩:=h2 j a_;simp only[hji,dite_true];rw[if_pos a_,if_pos a_,if_pos a_,if_pos a_,if_pos a_,if_pos a_];exact⟨g0,g1,g2,g3,g4,g5.keepT hk e_,(g5.keepT hk e_).up_⟩
   · obtain⟨g0,g1,g2,g3,g4,g5,g6⟩:=h2 (j+1) a_;simp only[hji,dite_false];rw[if_neg a_,if_neg a_,if_neg a_,if_neg a_,if_neg a_,if_neg a_];rw[show j*6+6=(j+1)*6 by omega,show j*6+1+6=(j+1)*6+1 by omega,show j*6+2+6=(j+1)*6+2 by omega,show j*6+3+6=(j+1)*6+3 by omega,show j*6+4+6=(j+1)*6+4 by omega,show j*6+5+6=(j+1)*6+5 by omega];exact⟨g0,g1,g2,g3,g4,g5.keepT hk e_,(g5.keepT hk e_).up_⟩
 · rw[hlen] at hb;have e:∀ j,(if j*6+5<i*6 then F (j*6+5) else F (j*6+5+6))=F ((if j<i then j else j+1)*6+5):=fun j=>by
    by_cases hj:j<i
    · rw[if_pos a_,if_pos hj]
    · rw[if_neg a_,if_neg hj];congr 1;omega
   simp only[e] at hk' ⊢;refine h3 _ _ ?_ ?_ k hk'
   · by_cases ha:a<i <;> by_cases hb':b<i <;> simp only[ha,hb',if_true,if_false] <;> omega
   · by_cases hb':b<i <;> simp only[hb',if_true,if_false] <;> omega
def evC(e:Ev):Array Value:= #[.int .i64 e.kind,.int .i64 e.a,.int .i64 e.b,.int .i64 e.c,.string e.txt]
def qt0(e:Ev):Value:=
 if e.kind=1 then .iface 146 (.agg #[.string e.txt])
 else if e.kind=2∨e.kind=3 then .iface 149 (.agg #[.int .i64 e.a,.int .i64 e.b,.bool (e.kind==2)])
 else if e.kind=4∨e.kind=5∨e.kind=6 then .iface 152 (.agg (evC e))
 else if e.kind=7∨e.kind=8 then .iface 155 (.agg #[.int .i64 e.a,.bool (e.kind==8)])
 else .nilIface
theorem qrT(e:Ev)(w:World):Calls Tryz.prog 107 #[.agg (evC e)] w fun r w'=>r=.returned (qt0 e)∧bB w w':=by
 obtain⟨k,a,b,c,t⟩:=e;have hb:=(bR_ w.heap.size w).alloc (nr_ _) (.cells (evC ⟨k,a,b,c,t⟩) 30);have HB:=hI_ hb;clear hb;unfold evC qt0 at*;dsimp only at*;by_cases h1:k=1
 · subst h1;go_enter Tryz.func107,Tryz.ntmps107
   go_wp2
   go_ret;exact⟨rfl,HB.out⟩
 by_cases h2:k=2
 · subst h2;go_enter Tryz.func107,Tryz.ntmps107
   go_wp2
   go_ret;exact⟨rfl,HB.out⟩
 by_cases h3:k=3
 · subst h3;go_enter Tryz.func107,Tryz.ntmps107
   go_wp2
   go_ret;exact⟨rfl,HB.out⟩
 by_cases h4:k=4
 · subst h4;go_enter Tryz.func107,Tryz.ntmps107
   go_wp2
   go_ret;exact⟨rfl,HB.out⟩
 by_cases h5:k=5
 · subst h5;go_enter Tryz.func107,Tryz.ntmps107
   go_wp2
   go_ret;exact⟨rfl,HB.out⟩
 by_cases h6:k=6
 · subst h6;go_enter Tryz.func107,Tryz.ntmps107
   go_wp2
   go_ret;exact⟨rfl,HB.out⟩
 by_cases h7:k=7
 · subst h7;go_enter Tryz.func107,Tryz.ntmps107
   go_wp2
   go_ret;exact⟨rfl,HB.out⟩
 by_cases h8:k=8
 · subst h8;go_enter Tryz.func107,Tryz.ntmps107
   go_wp2
   go_ret;exact⟨rfl,HB.out⟩
 go_enter Tryz.func107,Tryz.ntmps107
 go_wp2
 go_ret;refine⟨?_,HB.out⟩;simp
end Go.Proofs.YtekaaekpdebloaaGreatDoor
namespace Go.Proofs.YtekaaekpdebloaaGreatDoor
open Go.RowKit Go.Extern.Stop Go.Stop Go.Extern

theorem quy(t:Value)(w:World):
 Calls Tryz.prog 190 #[.nilIface,t] w fun e w'=>e=.returned (.bool false)∧w'=w:=by
 go_enter Tryz.func190,Tryz.ntmps190
 go_wp2
 go_ret;exact⟨rfl,rfl⟩

/-! ### CLOSED FACTS ON THE MODEL's ENTRIES FOR internal/reflectlite, at this program's types: 25: *p.E · 27: **p.E · 23: error · 45: reflectlite's rtype · 1: how many package-level variables the dump has -/
theorem qsA(t:Addr)(w:World):(ReflectliteValue.unpack (.iface 219 (.pointer (some t)))).run Tryz.prog w
 =.ok (.agg #[.pointer (some ⟨1,219,none⟩),.pointer (some ⟨w.heap.size,0,none⟩),.int .u64 150]) (w.alloc (.cells #[.pointer (some t)] 219)):=by kernel_rfl
theorem qtw(a:Addr)(w:World):(ReflectliteValue.methodAny (ReflectliteValue.valueError "reflectlite.Value.Type" 0) (fun t _ _ _=>ReflectliteType.toType t) #[.agg #[.pointer (some ⟨1,219,none⟩),.pointer (some a),.int .u64 150]]).run Tryz.prog w
 =.ok (.iface 276 (.agg #[.pointer (some ⟨1,219,none⟩)])) w:=by kernel_rfl
theorem qsn(h:Value)(w:World):(Go.method 424 276 (.agg #[h]) "Kind").run Tryz.prog w=.ok (295,h) w:=by kernel_rfl
theorem qtv(w:World):((ReflectliteType.abiMethod fun t=>(fun a:Nat=>Value.int IntKind.u8 (a:Int)) <$> Rtype.kind t) #[.pointer (some ⟨1,219,none⟩)]).run Tryz.prog w=.ok (.int .u8 22) w:=by kernel_rfl
theorem qtu(w:World):((ReflectliteType.abiMethod fun t=>(fun a:Nat=>Value.int IntKind.u8 (a:Int)) <$> Rtype.kind t) #[.pointer (some ⟨1,214,none⟩)]).run Tryz.prog w=.ok (.int .u8 22) w:=by kernel_rfl

/-! ### THE ENTRIES THAT READ OR WRITE MEMORY: laws with a premise on the cell (after Derived/Lib/ReflectliteSlice.lean's manner: each unfolding a lemma of its own, by rfl) -/
theorem rlm(z:Sem Value)(f:TypeId→Addr→Nat→Nat→Sem Value)(v:Value):
 ReflectliteValue.method z f #[v]=(do match ←ReflectliteValue.parts v with|none=>z|some (t,a,fl)=>f t a fl (fl%32)):=rfl
theorem qse(a:Addr)(w:World):(ReflectliteValue.parts (.agg #[.pointer (some ⟨1,219,none⟩),.pointer (some a),.int .u64 150])).run Tryz.prog w=.ok (some (219,a,150)) w:=by kernel_rfl
theorem qs5(a p:Addr)(W:World)(ha:W.cell? a=some (.pointer (some p))):
 (ReflectliteValue.method (ReflectliteValue.valueError "reflectlite.Value.IsNil" 0) ReflectliteValue.isNil #[.agg #[.pointer (some ⟨1,219,none⟩),.pointer (some a),.int .u64 150]]).run Tryz.prog W=.ok (.bool false) W:=by
 rw[rlm];simp only[Sem.run_bind,qse,Result.andThen];simp[ReflectliteValue.isNil,loadVar,isAgg,underlying,Tryz.underlying219,ha,Result.andThen]

theorem qsm(h:Value)(w:World):(Go.method 424 276 (.agg #[h]) "Elem").run Tryz.prog w=.ok (309,.agg #[h]) w:=by kernel_rfl
theorem qrY(h:Value)(w:World):(Go.method 424 276 (.agg #[h]) "Implements").run Tryz.prog w=.ok (310,.agg #[h]) w:=by kernel_rfl
theorem qrW(h:Value)(w:World):(Go.method 424 276 (.agg #[h]) "AssignableTo").run Tryz.prog w=.ok (307,.agg #[h]) w:=by kernel_rfl
theorem qtt(w:World):(ReflectliteType.method ReflectliteType.elem #[.agg #[.pointer (some ⟨1,219,none⟩)]]).run Tryz.prog w=.ok (.iface 276 (.agg #[.pointer (some ⟨1,214,none⟩)])) w:=by kernel_rfl
theorem qr6(w:World):(ReflectliteType.relation "Implements" ReflectliteType.implements_ #[.agg #[.pointer (some ⟨1,214,none⟩)],.iface 276 (.agg #[.pointer (some ⟨1,217,none⟩)])]).run Tryz.prog w=.ok (.bool true) w:=by kernel_rfl
theorem qsM(v:Value)(w:World):(ReflectliteType.typeOf #[.iface 214 v]).run Tryz.prog w=.ok (.iface 276 (.agg #[.pointer (some ⟨1,214,none⟩)])) w:=by kernel_rfl
theorem qr5(w:World):(ReflectliteType.relation "AssignableTo" ReflectliteType.assignableTo #[.agg #[.pointer (some ⟨1,214,none⟩)],.iface 276 (.agg #[.pointer (some ⟨1,214,none⟩)])]).run Tryz.prog w=.ok (.bool true) w:=by kernel_rfl
theorem qsz(e:Addr)(w:World):(ReflectliteValue.unpack (.iface 214 (.pointer (some e)))).run Tryz.prog w
 =.ok (.agg #[.pointer (some ⟨1,214,none⟩),.pointer (some ⟨w.heap.size,0,none⟩),.int .u64 150]) (w.alloc (.cells #[.pointer (some e)] 214)):=by kernel_rfl

theorem qsK(w:World):(Rtype.elem? 219).run Tryz.prog w=.ok (some 214) w:=by kernel_rfl
theorem qud(p:Addr)(w:World):(ReflectliteValue.mk 214 p ReflectliteValue.flagAddr).run Tryz.prog w=.ok (.agg #[.pointer (some ⟨1,214,none⟩),.pointer (some p),.int .u64 406]) w:=by kernel_rfl
theorem qs4(a p:Addr)(W:World)(ha:W.cell? a=some (.pointer (some p))):
 (ReflectliteValue.method (ReflectliteValue.valueError "reflectlite.Value.Elem" 0) ReflectliteValue.elem #[.agg #[.pointer (some ⟨1,219,none⟩),.pointer (some a),.int .u64 150]]).run Tryz.prog W
   =.ok (.agg #[.pointer (some ⟨1,214,none⟩),.pointer (some p),.int .u64 406]) W:=by
 rw[rlm];simp only[Sem.run_bind,qse,Result.andThen];simp[ReflectliteValue.elem,loadVar,isAgg,underlying,Tryz.underlying219,ha,Result.andThen,qsK,qud]
theorem rls(v x:Value):ReflectliteValue.set #[v,x]=(do
 let (some (dst,a,fl),some (src,b,_)):=(←ReflectliteValue.parts v,←ReflectliteValue.parts x)
  |unsupported (.noEntry "extern/(internal/reflectlite.Value).Set.zeroValue")
 if fl/ReflectliteValue.flagAddr%2==0 then unsupported (.noEntry "extern/(internal/reflectlite.Value).Set.unaddressable")
 let val ←loadVar src b
 if ←Rtype.directlyAssignable dst src then storeVar dst a val
 else if ←Rtype.implements dst src then
  if (←Rtype.kind src)==20 then
   match val with
   |.nilIface=>unsupported (.noEntry "extern/reflectlite: a nil value of one interface type handed on as a value of another")
   |_=>storeVar dst a val
  else storeVar dst a (.iface src val)
 else panicString ("reflectlite.Set: value of type "++(←Rtype.spelt src)++ " is not assignable to type "++(←Rtype.spelt dst))
 pure (.tuple #[])):=rfl
theorem qsL(a:Addr)(w:World):(ReflectliteValue.parts (.agg #[.pointer (some ⟨1,214,none⟩),.pointer (some a),.int .u64 406])).run Tryz.prog w=.ok (some (214,a,406)) w:=by kernel_rfl
theorem qs6(a:Addr)(w:World):(ReflectliteValue.parts (.agg #[.pointer (some ⟨1,214,none⟩),.pointer (some a),.int .u64 150])).run Tryz.prog w=.ok (some (214,a,150)) w:=by kernel_rfl
theorem qsJ(w:World):(Rtype.directlyAssignable 214 214).run Tryz.prog w=.ok true w:=by kernel_rfl
theorem qtT(ta b e:Addr)(old:Value)(W:World)(hb:W.cell? b=some (.pointer (some e)))(ht:W.cell? ta=some old)(hf:W.frozen? ta=false):
 (ReflectliteValue.set #[.agg #[.pointer (some ⟨1,214,none⟩),.pointer (some ta),.int .u64 406],.agg #[.pointer (some ⟨1,214,none⟩),.pointer (some b),.int .u64 150]]).run Tryz.prog W
   =.ok (.tuple #[]) (W.setCell ta (.pointer (some e))):=by
 rw[rls];simp only[Sem.run_bind,qsL,qs6,Result.andThen];simp[ReflectliteValue.flagAddr,loadVar,isAgg,underlying,Tryz.underlying214,hb,Result.andThen,qsJ,storeVar,Value.cells,storeCells,Addr.add];rw[run_store Tryz.prog W ta _ _ p_];simp[ht,hf]

theorem qux(e t:Addr)(old:Value)(w:World)(hg:w.cell? ⟨0,0,none⟩=some (.iface 276 (.agg #[.pointer (some ⟨1,217,none⟩)])))(ht0:w.cell? t=some old)(hf0:w.frozen? t=false):
 Calls Tryz.prog 190 #[.iface 214 (.pointer (some e)),.iface 219 (.pointer (some t))] w fun ev w'=>ev=.returned (.bool true)∧w'=((((w.alloc (.cells #[.pointer (some t)] 219)).alloc (.cells #[.pointer (some ⟨1,219,none⟩),.pointer (some ⟨w.heap.size,0,none⟩),.int .u64 150] 259)).alloc (.cells #[.pointer (some ⟨1,219,none⟩),.pointer (some ⟨w.heap.size,0,none⟩),.int .u64 150] 259)).alloc (.cells #[.pointer (some e)] 214)).setCell t (.pointer (some e)):=by
 have h6:= @run_callFunc_extern Tryz.prog 247 _ (fun args=>ReflectliteValue.unpack (args.getD 0 (.tuple #[]))) Tryz.func247 d_ d_ d_ d_;have h7:= @run_callFunc_extern Tryz.prog 248 _ (ReflectliteValue.methodAny (ReflectliteValue.valueError "reflectlite.Value.Type" 0) (fun t _ _ _=>ReflectliteType.toType t)) Tryz.func248 d_ d_ d_ d_;have h8:= @run_callFunc_extern Tryz.prog 249 _ (ReflectliteValue.method (ReflectliteValue.valueError "reflectlite.Value.IsNil" 0) ReflectliteValue.isNil) Tryz.func249 d_ d_ d_ d_;have h27:= @run_callFunc_extern Tryz.prog 295 _ (ReflectliteType.abiMethod fun t=>do pure (.int .u8 (←Rtype.kind t))) Tryz.func295 d_ d_ d_ d_;have h37:= @run_callFunc_extern Tryz.prog 309 _ (ReflectliteType.method ReflectliteType.elem) Tryz.func309 d_ d_ d_ d_;have h38:= @run_callFunc_extern Tryz.prog 310 _ (ReflectliteType.relation "Implements" ReflectliteType.implements_) Tryz.func310 d_ d_ d_ d_;have h10:= @run_callFunc_extern Tryz.prog 269 _ ReflectliteType.typeOf Tryz.func269 d_ d_ d_ d_;have h35:= @run_callFunc_extern Tryz.prog 307 _ (ReflectliteType.relation "AssignableTo" ReflectliteType.assignableTo) Tryz.func307 d_ d_ d_ d_;have h11:= @run_callFunc_extern Tryz.prog 270 _ (ReflectliteValue.method (ReflectliteValue.valueError "reflectlite.Value.Elem" 0) ReflectliteValue.elem) Tryz.func270 d_ d_ d_ d_;have h12:= @run_callFunc_extern Tryz.prog 271 _ ReflectliteValue.set Tryz.func271 d_ d_ d_ d_;have tO:=qsM;have mA:=qrW;have a25:=qr5;have v25:=qsz;have f6:=qsA;have f7:=qtw;have mK:=qsn;have mE:=qsm;have mI:=qrY;have k27:=qtv;have k25:=qtu;have e27:=qtt;have i25:=qr6;have n8:=qs5 ⟨w.heap.size,0,none⟩ t ((w.alloc (.cells #[.pointer (some t)] 219)).alloc (.cells #[.pointer (some ⟨1,219,none⟩),.pointer (some ⟨w.heap.size,0,none⟩),.int .u64 150] 259)) k_;have hlt:0<w.heap.size:=by
  rcases Nat.eq_zero_or_pos w.heap.size with h0|h
  · simp[World.cell?,h0] at hg
  · exact h
 have hg2:((w.alloc (.cells #[.pointer (some t)] 219)).alloc (.cells #[.pointer (some ⟨1,219,none⟩),.pointer (some ⟨w.heap.size,0,none⟩),.int .u64 150] 259)).cell? ⟨0,0,none⟩=some (.iface 276 (.agg #[.pointer (some ⟨1,217,none⟩)])):=by
  rw[World.cell?_alloc_lt _ _ ⟨0,0,none⟩ k_,World.cell?_alloc_lt _ _ ⟨0,0,none⟩ hlt];exact hg
 have htl:t.block<w.heap.size:=by
  rcases Nat.lt_or_ge t.block w.heap.size with h|h
  · exact h
  · simp[World.cell?,Array.getElem?_eq_none h] at ht0
 have el:=qs4 ⟨w.heap.size,0,none⟩ t (((w.alloc (.cells #[.pointer (some t)] 219)).alloc (.cells #[.pointer (some ⟨1,219,none⟩),.pointer (some ⟨w.heap.size,0,none⟩),.int .u64 150] 259)).alloc (.cells #[.pointer (some ⟨1,219,none⟩),.pointer (some ⟨w.heap.size,0,none⟩),.int .u64 150] 259)) (by rw[World.cell?_alloc_lt _ _ ⟨w.heap.size,0,none⟩ n_];simp);have st:=qtT t ⟨w.heap.size+1+1+1,0,none⟩ e old ((((w.alloc (.cells #[.pointer (some t)] 219)).alloc (.cells #[.pointer (some ⟨1,219,none⟩),.pointer (some ⟨w.heap.size,0,none⟩),.int .u64 150] 259)).alloc (.cells #[.pointer (some ⟨1,219,none⟩),.pointer (some ⟨w.heap.size,0,none⟩),.int .u64 150] 259)).alloc (.cells #[.pointer (some e)] 214))
  (by rw[World.cell?_alloc_at _ _ _ _ k_];rfl)
  (by rw[World.cell?_alloc_lt _ _ t n_,World.cell?_alloc_lt _ _ t n_,World.cell?_alloc_lt _ _ t n_,World.cell?_alloc_lt _ _ t htl];exact ht0)
  (by rw[World.frozen?_alloc_old _ _ t n_,World.frozen?_alloc_old _ _ t n_,World.frozen?_alloc_old _ _ t n_,World.frozen?_alloc_old _ _ t (Nat.ne_of_lt htl)];exact hf0)
 go_enter Tryz.func190,Tryz.ntmps190
 go_wp2
 refine wp_loop_rounds 1 ?_;rw[rounds_succ];go_wp2
 go_ret;exact⟨rfl,rfl⟩
end Go.Proofs.YtekaaekpdebloaaGreatDoor
namespace Go.Proofs.YtekaaekpdebloaaGreatDoor
open Go.RowKit
attribute [local go_sem ↓] Go.wp_at_zero Go.wp_at_succ

theorem qs8(x:Wd)(a b:Int):qa0 x a b={x with feeds:=(qa0 x a b).feeds}∧(qa0 x a b).feeds.length=x.feeds.length:=by
 unfold qa0;split
 · exact⟨rfl,k_⟩
 · exact⟨rfl,rfl⟩
theorem MI.form{B q o:Nat}{x:Wd}{w:World}{vF vL vA vN:Value}(h:MI B q o x w vF vL vA vN)(hn:0<x.feeds.length):∃ g c,vF=.slice (some ⟨g,0,none⟩) x.feeds.length c∧B≤g∧g<w.heap.size∧q≠g∧∃ cur,w.heap[g]? =some (.cells cur 50 (0,0)):=by
 obtain⟨_,F,h1,_⟩:=h.p.F;obtain⟨g,c,rfl,h2,h3⟩:=h1.form hn;obtain⟨cur,hh⟩:=h1.row0 g rfl;exact⟨g,c,rfl,h2,h3,h.bx.row hh e_,cur,hh⟩
theorem MI.setF{B q o g:Nat}{x:Wd}{w w':World}{vF vL vA vN:Value}{fs:List Fd}{cur:Array Value}(h:MI B q o x w vF vL vA vN)(hq:q≠g)(hh:w.heap[g]? =some (.cells cur 50 (0,0)))(hF:qa7 B w'.heap.size w' vF fs)(hg:w.grownBy w' (some g)):
 MI B q o {x with feeds:=fs} w' vF vL vA vN:=by
 have hk:qaA [99,54,109,57,3] w w':=qaA.of_grown hg (fun r hr=>by cases hr;exact⟨cur,_,_,hh,e_⟩);exact⟨h.bx.grown hg hq,⟨hF,(h.p.L.keepT hk e_).mono (nr_ _) hg.size,(h.p.A.nextT hk e_ e_).mono (nr_ _) hg.size,(h.p.N.nextT hk e_ e_).mono (nr_ _) hg.size⟩,h.bq⟩
theorem qtp(x:Wd)(a b:Int)(q o B:Nat)(vF vL vA vN:Value)(w:World)(h:MI B q o x w vF vL vA vN)(hv:WV x)(hl:qbk x a b=true):
 Calls Tryz.prog 142 #[.pointer (some ⟨q,o,none⟩),.int .i64 a,.int .i64 b] w (qrH B q o w (qa0 x a b)):=by
 obtain⟨i,j,rfl,rfl,hi,hj⟩:=hv.wi.lk hl;obtain⟨g,c,rfl,hB,hgs,hqg,cur,hh⟩:=h.form a_;refine(qkB x i j q o B w.heap.size g c w hv hi hj hl h.bx.c2 h.lt hqg h.p.F (nr_ _)).mono ?_;rintro e w' ⟨rfl,hF,hg⟩;obtain⟨he,hn⟩:=qs8 x i j;rw[hn] at hF;have hm:=h.setF hqg hh hF hg;rw[←he] at hm;exact⟨rfl,_,_,_,_,hm,Below.grown (bR_ _ _) hg h.bs (fun r hr=>by cases hr;exact hB),fun t _=>World.cell?_of_block (hg.block q h.lt (fun e=>by cases e;exact hqg rfl))⟩
end Go.Proofs.YtekaaekpdebloaaGreatDoor

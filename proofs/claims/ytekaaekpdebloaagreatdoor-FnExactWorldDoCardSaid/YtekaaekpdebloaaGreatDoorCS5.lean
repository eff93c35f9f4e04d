/- Words and walks of the law. -/
import Derived.Test.YtekaaekpdebloaaGreatDoorCP5
import Derived.JoinedOf
import Derived.ProofKit
import Derived.Carry
import Derived.ChangeSame
import Derived.Deep.Slices
import Derived.OpenShut
import Derived.ChangeVars
import Derived.LaidLaws
import Derived.LaidHandle
import Derived.RowKitTokens
import Derived.Stop.Joined
import Derived.KernelRfl
set_option linter.unusedVariables false
set_option linter.unusedSimpArgs false
set_option maxHeartbeats 12800000
set_option maxRecDepth 100000
namespace Go.Proofs.YtekaaekpdebloaaGreatDoor
open Go

theorem qef:∀ (w r:List Char),(∀ c ∈ w,c≠Char.ofNat 32)→wordsSigns (w++Char.ofNat 32::r)=w::wordsSigns r
 |[],r,_=>rfl
 |c::w,r,h=>by
  have hc:c≠Char.ofNat 32:=h c List.mem_cons_self;have ih:=qef w r fun x hx=>h x (List.mem_cons_of_mem _ hx);rw[List.cons_append,wordsSigns.eq_3 _ _ (fun e=>hc e),ih]
def qjW(l:List Char):Bool:=
 (l.take 8== "harness ".toList)&&(((l.drop 8).take 64).all fun c=> !(c==Char.ofNat 32))&&isSumSigns ((l.drop 8).take 64)&&((l.drop 72).take 5== " cut ".toList)
theorem qmJ{l:List Char}(h:qjW l=true):∃ r,behindMainWord (wordsSigns l)= "cut".toList::r:=by
 simp only[qjW,Bool.and_eq_true,beq_iff_eq,List.all_eq_true] at h;obtain⟨⟨⟨h1,h2⟩,h3⟩,h4⟩:=h;have e1:l=l.take 8++((l.drop 8).take 64++((l.drop 72).take 5++l.drop 77)):=by
  have a:(l.drop 8).drop 64=l.drop 72:=by rw[List.drop_drop]
  have b:(l.drop 72).drop 5=l.drop 77:=by rw[List.drop_drop]
  rw[←b,List.take_append_drop,←a,List.take_append_drop,List.take_append_drop]
 generalize(l.drop 8).take 64=s at*
 generalize l.drop 77=r at*
 rw[h1,h4] at e1;have e2:l= "harness".toList++Char.ofNat 32::(s++Char.ofNat 32::("cut".toList++Char.ofNat 32::r)):=by
  rw[e1];simp
 refine⟨wordsSigns r,?_⟩;rw[e2,qef _ _ (by decide),qef _ _ (fun c hc e=>by have:=h2 c hc;rw[e] at this;exact absurd this (by decide)),qef _ _ (by decide)];show(if (("harness".toList== "harness".toList|| "harness".toList== "ownmain".toList)&&isSumSigns s)=true then _ else _)=_;rw[if_pos (by rw[h3];decide)]
theorem qjq{P:Program}(h:∃ l,P.initOrder=String.ofList l∧qjW l=true):∃ r,behindMainWord (wordsSigns P.initOrder.toList)= "cut".toList::r:=by
 obtain⟨l,e,h⟩:=h;rw[e,String.toList_ofList];exact qmJ h
theorem qic{r:List (List Char)}:stripLifts liftWords ("cut".toList::r)=([], "cut".toList::r):=by
 simp only[liftWords,stripLifts];rfl
section
variable {P:Program} {r:List (List Char)} (h:behindMainWord (wordsSigns P.initOrder.toList)= "cut".toList::r)
include h
theorem qmE:P.make=some .cut:=by unfold Program.make;rw[h];rfl
theorem qlx:P.headLifts=[]:=by unfold Program.headLifts;rw[h,qic];rfl
theorem qlw:P.liftsFinal=false:=by unfold Program.liftsFinal;rw[h,qlx h];rfl
theorem qlv(h1:P.laysLater=false)(h2:P.bearsReflect=false)(h3:P.doorFits []=true):P.mayEnter=true:=by
 unfold Program.mayEnter;rw[h];simp only[qic,h1,h2,h3];rfl
end
theorem qim{P:Program}{f:FuncId}{fn:Func}{s:ChangeSpec}{c:OpenClaim}
 (k1:c.wf (OpenSpec.ofChange s)=true) (k2:laidOutB P=true) (k3:mapsRowed P=true) (k4:fn.params.all (P.readableRec ·)=true) (k5:namedTie P c.named s.vars=true)
 (k6:(c.stops==[])=true) (k7:(P.stops==[])=true) (k8:(c.knobs==[])=true) (k9:(P.stopKnobs==[])=true) (k10:(c.inPlace==P.inPlace f)=true) (k11:(c.unfollowed==P.unfollowed f)=true)
 (k12:(c.recurses==P.recurses f)=true) (k13:(c.named==P.varsNamed f)=true) (k14:(c.maps==(fn.params.toList++s.plain.varTypes P).any (P.mapsRec ·))=true) (k15:(c.ifaces==(fn.params.toList++s.plain.varTypes P).any (P.ifacesRec ·))=true)
 (k16:(c.mapsOut==P.mapsAmong fn.resultTypes.toList)=true) (k17:(c.loops==(fn.params.toList++s.plain.varTypes P).any (P.loopsFrom ·))=true) (k17b:(c.wideKeys==(fn.params.toList++s.plain.varTypes P++fn.resultTypes.toList).any (P.wideKeysFrom ·))=true)
 (k18:s.vars.all (P.varReadable ·)=true) (k19:fn.resultTypes.all (fun t=>P.readableRec t&&decide (t<P.types.size))=true) (k20:(c.ifacesOut==fn.resultTypes.toList.any (P.ifacesRec ·))=true) (k21:(c.loopsOut==fn.resultTypes.toList.any (P.loopsFrom ·))=true)
 (k22:(c.plainKeys==P.plainKeys)=true) (k23:c.shortTexts.isNone=true) (k23b:P.stopsHeard=true) (k24:P.mayEnter=true) (k24b:(c.lifted==P.liftsFinal)=true) (k24c:(P.make==some c.make)=true)
 (k25:c.domain.isEmpty=true) (k25b:c.kinds=[]) (k26:(c.pinned==c.pinnedBy)=true)
 (k27:(c.veiled==(fn.params.toList++s.plain.varTypes P++fn.resultTypes.toList).any (P.veiledRec ·))=true) (k28:c.veiledFits P fn.params.toList (fn.params.toList++s.plain.varTypes P++fn.resultTypes.toList)=true):joinedFacts P f fn s c=true:=by
 unfold joinedFacts;rw[k1,k2,k3,k4,k5,k6,k7,k8,k9,k10,k11,k12,k13,k14,k15,k16,k17,k17b,k18,k19,k20,k21,k22,k23,k23b,k24,k24b,k24c,k25,k25b,if_pos rfl,k26,k27,k28];rfl
end Go.Proofs.YtekaaekpdebloaaGreatDoor
namespace Go.Proofs.YtekaaekpdebloaaGreatDoor
open Go.RowKit Go.ChangeShapes Go.WideShapes Go.Deep

section
variable {H:Type} {enc:TypeId×Value→H} {P:Program} {w:World} {base:Nat} {held:Bool}

theorem qjK{W W':World}(hl:laidOutB P=true)(hb:bB W W')(sp:Nat→Bool):∀ {ts:List TypeId} {vs:List Value} {ds:List (DataW H)} {ps:List MemPlace},
 ts.all (fun t=>P.readableRec t&&decide (t<P.types.size))=true→DataW.TrodAll enc P W 0 (fun _=>true) true ts vs ds ps→(∀ x ∈ ps,x.block<W.heap.size)→(∀ x ∈ ps,sp x.block=true)→
 DataW.TrodAll enc P W' 0 sp true ts vs ds ps
 |[],[],[],_,_,h,_,_=>h
 |t::ts,v::vs,d::ds,ps,hr,⟨p,q,h1,h2,e⟩,hlt,hs=>by
  subst e;rw[List.all_cons,Bool.and_eq_true,Bool.and_eq_true,decide_eq_true_eq] at hr;exact⟨p,q,WideElems.Trod_stays hl hr.1.1 hr.1.2 h1 (fun x hx=>hb.same (hlt x (List.mem_append_left _ hx))) (fun x hx=>hs x (List.mem_append_left _ hx)),
    qjK hl hb sp hr.2 h2 (fun x hx=>hlt x (List.mem_append_right _ hx)) (fun x hx=>hs x (List.mem_append_right _ hx)),rfl⟩
 |[],[],_::_,_,_,h,_,_|[],_::_,[],_,_,h,_,_|[],_::_,_::_,_,_,h,_,_|_::_,[],[],_,_,h,_,_|_::_,[],_::_,_,_,h,_,_|_::_,_::_,[],_,_,h,_,_=>by simp[DataW.TrodAll] at h

theorem qj0{f:Func}{s:ChangeSpec}{apart fresh handsOn again:Bool}{W W':World}{args:Array Value}{ds gs:List (DataW H)}{before:List MemPlace}{tb:TypeId}
 (hW:DataW.Whole enc P f.params.toList s.vars apart W args.toList ds gs before) (hv:s.vars=[]) (hf:s.fn H (ds++gs)={results:=[.lit (.bool true)],args:=ds})
 (hl:laidOutB P=true) (hr:f.params.toList.all (fun t=>P.readableRec t&&decide (t<P.types.size))=true) (hrt:f.resultTypes= #[tb]) (htb:P.underlying tb=some .bool) (hb:bB W W'):
 s.post enc P f apart fresh handsOn again W args (.bool true) W':=by
 have hW0:=hW;have hlt:∀ p ∈ before,p.block<W.heap.size:=fun p hp=>hW.lt p hp;obtain⟨p,q,hA,hV,he,hz,hn⟩:=hW;rw[hv] at hV;obtain⟨rfl,rfl⟩:=trodVars_none hV;rw[List.append_nil] at he hf;subst he;have hres:∀ (b:Nat) (sp:Nat→Bool) (hd:Bool),DataW.TrodAll enc P W' b sp hd f.resultTypes.toList ((Value.bool true).resultList f.resultTypes.size) [.lit (.bool true)] []:=fun b sp hd=>by
  rw[hrt];exact trodAll_mk1 (shut_bool htb true)
 have hst:=fun sp hs=>qjK hl hb sp hr hA hlt hs;have hfr:f.params.toList.length=f.params.toList.length:=rfl;refine⟨ds,[],before,[],before,[],hW0,?_,?_,?_,World.keptBut_mono (fun p hp=>⟨hp,Or.inr (Or.inl hp)⟩) (hb.frame (· ∈ before)),fun _=> ?_⟩
 · rw[List.append_nil,hf];exact hres _ _ _
 · rw[List.append_nil,hf];exact hst _ (fun x hx=>by simpa using hlt x hx)
 · rw[List.append_nil,hf,hv];exact rfl
 · refine⟨ok_one hrt rfl (okWide_bool_mk htb true),[.lit (.bool true)]++ds,[],[]++before,⟨[]++before,[],trodAll_append (hst _ (fun _ _=>rfl)) (hres _ _ _),?_,?_,?_,?_⟩,?_⟩
   · rw[hv];exact rfl
   · simp
   · intro b off hp;have hin:MemPlace.cell b off ∈ before:=by simpa using hp
     rw[hb.frozen (hlt _ hin)];exact hz b off hin
   · intro ha;simpa using hn ha
   · intro x hx _;simpa using hx

theorem qnO{α:Type}[Inhabited α]{Enc:α→Value}{Q:α→Prop}{t e:TypeId}{fuel:Nat}{v:Value}{x:DataW H×List MemPlace}(ht:P.underlying t=some (.slice e))(hc:P.cellsOf e=1)
 (hd:∀ n V y,DataW.trod enc P w base (fun _=>true) held n e [V]=some y→∃ z,V=Enc z∧Q z) (h:DataW.trod enc P w base (fun _=>true) held fuel t [v]=some x):∃ l:List α,R1 Enc w v l∧∀ z ∈ l,Q z:=by
 rcases open_slice1 ht hc h with⟨h1,_⟩|⟨a,len,cap,m,n,V,D,Pl,h1,_,hl,hm,hmm,_,hx⟩
 · obtain rfl:v=.slice none 0 0:=bd_;exact⟨[],⟨none,0,rfl,⟨nr_ _,fun _=>rfl⟩,e_,fun h=>absurd h k_⟩,fun _ hz=>by simp at hz⟩
 · obtain rfl:v=.slice (some a) len cap:=bd_;have hm2:m=cap:=by simpa using hmm
   subst hm2;obtain⟨F,hF⟩:=choose_lt (n:=m) (p:=fun i (z:α)=>V i=Enc z∧Q z) (fun i hi=>hd _ _ _ (hx i hi).2);refine⟨(List.range len).map F,⟨some a,m,k_,⟨by simpa using hl,fun h=>by simp at h⟩,hm,fun h0=> ?_⟩,fun z hz=> ?_⟩
   · have h0':0<len:=by simpa using h0
     obtain⟨b,o,s⟩:=a;have hs:s=none:=by simpa[Addr.add] using World.cell?_spot (hx 0 a_).1
     subst hs;refine⟨b,o,rfl,?_,fun j hj=> ?_⟩
     · have hc0:=(hx 0 a_).1;apply Classical.byContradiction;intro hge;have:w.heap[b]? =none:=by simp;omega
       simp[Addr.add,World.cell?,this] at hc0
     · have hj':j<len:=ae_;have h2:=(hx j a_).1;rw[add_plain] at h2;rw[h2,(hF j a_).1];simp
   · obtain⟨i,hi,rfl⟩:=List.mem_map.1 hz;have:=List.mem_range.1 hi;exact(hF i a_).2

end
end Go.Proofs.YtekaaekpdebloaaGreatDoor
namespace Go.Proofs.YtekaaekpdebloaaGreatDoor
open Go

theorem fact_head:∃ l,Tryz.prog.initOrder=String.ofList l∧qjW l=true:=⟨_,rfl,by kernel_rfl⟩
theorem fact_rows:mapsRowed Tryz.prog=true:=by kernel_rfl
theorem fact_laid:laidOutB Tryz.prog=true:=by kernel_rfl
theorem fact_stops:(Tryz.prog.stops==[])=true:=by kernel_rfl
theorem fact_knobs:(Tryz.prog.stopKnobs==[])=true:=by kernel_rfl
theorem fact_keys:Tryz.prog.plainKeys=false:=by kernel_rfl
theorem fact_heard:Tryz.prog.stopsHeard=true:=by kernel_rfl
theorem fact_later:Tryz.prog.laysLater=false:=by kernel_rfl
theorem fact_reflect:Tryz.prog.bearsReflect=false:=by kernel_rfl
theorem fact_door:Tryz.prog.doorFits []=true:=by kernel_rfl
theorem fact_enter:Tryz.prog.mayEnter=true:=by
 obtain⟨r,h⟩:=qjq fact_head;exact qlv h fact_later fact_reflect fact_door
theorem fact_make:Tryz.prog.make=some .cut:=by
 obtain⟨r,h⟩:=qjq fact_head;exact qmE h
theorem fact_final:Tryz.prog.liftsFinal=false:=by
 obtain⟨r,h⟩:=qjq fact_head;exact qlw h
end Go.Proofs.YtekaaekpdebloaaGreatDoor
namespace Go.Proofs.YtekaaekpdebloaaGreatDoor
open Go.RowKit Go.ChangeShapes Go.WideShapes Go.Deep

theorem own:ownKnob Tryz.prog.godebug=none:=by kernel_rfl
theorem laid:laidOutB Tryz.prog=true:=by kernel_rfl
end Go.Proofs.YtekaaekpdebloaaGreatDoor
namespace Go.Proofs.YtekaaekpdebloaaGreatDoor
open Go.ChangeShapes Go.WideShapes Go.RowKit

theorem qup{P:Program}{l:List Char}(e:P.initOrder=String.ofList l)(h:qjW l=true):P.mainIs=some (true,(l.drop 8).take 64):=by
 simp only[qjW,Bool.and_eq_true,beq_iff_eq,List.all_eq_true] at h;obtain⟨⟨⟨h1,h2⟩,h3⟩,h4⟩:=h;have e1:l=l.take 8++((l.drop 8).take 64++((l.drop 72).take 5++l.drop 77)):=by
  have a:(l.drop 8).drop 64=l.drop 72:=by rw[List.drop_drop]
  have b:(l.drop 72).drop 5=l.drop 77:=by rw[List.drop_drop]
  rw[←b,List.take_append_drop,←a,List.take_append_drop,List.take_append_drop]
 unfold Program.mainIs;rw[e,String.toList_ofList];generalize(l.drop 8).take 64=s at*
 generalize l.drop 77=r at*
 rw[h1,h4] at e1;have e2:l= "harness".toList++Char.ofNat 32::(s++Char.ofNat 32::("cut".toList++Char.ofNat 32::r)):=by
  rw[e1];simp
 rw[e2,qef _ _ e_,qef _ _ (fun c hc e=>by have:=h2 c hc;rw[e] at this;exact absurd this e_)];simp only[h3];rfl
theorem qt8:Tryz.prog.globalNamed "errors.errorType"=some 0:=by kernel_rfl
theorem qub:(Tryz.prog.cutTypes.find? (·.1== "internal/reflectlite.rtype")).map (·.2)=some 276:=by kernel_rfl
theorem quq:((List.range 324).filter fun t=>Tryz.prog.rowNamed t [101,114,114,111,114])=[217]:=by kernel_rfl
theorem qtx:Tryz.prog.types.size=324:=by kernel_rfl
theorem qsf{W:World}(h:laidMetH Tryz.prog [("errors.errorType",Rows.laid_errors_errorType)] W):qsC W:=by
 have h':laidMet Tryz.prog [] W∧handlesMet Tryz.prog [("errors.errorType",Rows.laid_errors_errorType)] W:=h;obtain⟨name,u,ty,e1,e2,e3,e4,e5⟩:=h'.2 _ (List.mem_singleton.2 rfl);have en:name=[101,114,114,111,114]:=(Option.some.inj e1).symm;subst en;obtain rfl:=Option.some.inj (qub.symm.trans e2);have hm:ty ∈ (List.range 324).filter fun t=>Tryz.prog.rowNamed t [101,114,114,111,114]:=List.mem_filter.2 ⟨List.mem_range.2 (by rw[←qtx];exact e3),e4⟩;rw[quq] at hm;obtain rfl:=List.mem_singleton.1 hm;have hh:typeHandle Tryz.prog 217=.pointer (some ⟨1,217,none⟩):=d_;rw[hh] at e5;unfold qsC;simpa using World.var?_cell qt8 e5 0
theorem qua(os:Os)(args:Array Value):laidMetH Tryz.prog [("errors.errorType",Rows.laid_errors_errorType)] (({World.holding Tryz.prog os ⟨#[],#[],[]⟩ with heap:=(World.holding Tryz.prog os ⟨#[],#[],[]⟩).heap.modify 0 fun|.cells _ t frozen=>.cells #[.iface 276 (.agg #[.pointer (some ⟨1,217,none⟩)])] t frozen|o=>o}:World).forCall (fun _ _=>0) ⟨#[],args,[]⟩).memory:=
 laidMetH_of_parts (laidMet_nil _ _) d_
end Go.Proofs.YtekaaekpdebloaaGreatDoor

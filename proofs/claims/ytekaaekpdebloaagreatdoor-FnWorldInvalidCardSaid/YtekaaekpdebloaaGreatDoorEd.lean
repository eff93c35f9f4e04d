/- PROVED HERE: the given statement Rows.FnWorldInvalidCardSaid, whole: for every code the law answers true and the code reads as it did. -/
import Derived.Test.YtekaaekpdebloaaGreatDoorK3Ed
import Derived.Test.YtekaaekpdebloaaGreatDoorCards
import Derived.Test.YtekaaekpdebloaaGreatDoorTie
set_option linter.unusedVariables false
set_option linter.unusedSimpArgs false
set_option maxHeartbeats 12800000
set_option maxRecDepth 100000
namespace Go.Proofs.YtekaaekpdebloaaGreatDoor
open Go.ChangeShapes Go.WideShapes Go.ChangeAt Go.RowKit

theorem own_FnWorldInvalid:ownKnob Tryz.prog.godebug=none:=by kernel_rfl
theorem FnWorldInvalid_lifted(os:Os)(started:os.Started)(H:Type)(enc:TypeId×Value→H):
 ReturnsInHanded {} Tryz.checked os 11 .any (fun w args=>(Rows.fnWorldInvalidSpec.pre enc Tryz.prog Tryz.f11 [] false w args∧laidMetH Tryz.prog Rows.fnWorldInvalidRow.laid w)∧sizedMet enc Tryz.prog Tryz.f11 (OpenSpec.ofChange Rows.fnWorldInvalidSpec) false w args) (Rows.fnWorldInvalidSpec.post enc Tryz.prog Tryz.f11 false true false false):=by
 refine returnsInHanded_of_change_and (C:=Tryz.checked) (X:=fun w _=>laidMetH Tryz.prog Rows.fnWorldInvalidRow.laid w) (fun _ _ _ hh h=>h.of_heap hh) own_FnWorldInvalid started d_ Tryz.func11
  (ChangeSpec.witness_at (enc:=enc) (C:=Tryz.checked) (os:=os) (X:=fun w _=>laidMetH Tryz.prog Rows.fnWorldInvalidRow.laid w) false _ #[.slice none 0 0] 8 rfl d_ d_ d_ d_ d_ (qua os _)) ?_
 intro W base args ds gs before hval hW _ _ hL _;have hW':=hW;obtain⟨p,q,hA0,hV,rfl,hfz,hnd⟩:=hW;have hA:DataW.TrodAll enc Tryz.prog W 0 (fun _=>true) true Tryz.f11.params.toList args.toList ds p:=hA0;rw[Tryz.params11] at hA;have hval':∀ (j:Nat) t v,Tryz.f11.params[j]? =some t→args[j]? =some v→Value.okWide Tryz.prog W .any base t v:=hval;rw[Tryz.params11] at hval';obtain⟨v0,vs0,d0,ds0,p0,q0,hargs,rfl,rfl,h0,r0⟩:=trodAll_cons hA;obtain⟨rfl,rfl,rfl⟩:=trodAll_nil r0;obtain rfl:args= #[v0]:=by cases args;simp_all
 obtain⟨rfl,rfl⟩:=trodVars_none hV;obtain⟨bs,hbs⟩:=qiE (hval' 0 _ v0 rfl rfl) h0;refine(FnWorldInvalid_any bs v0 W hbs (qsf hL)).mono fun e W' ⟨he,hb⟩=> ?_;subst he;exact⟨_,rfl,qj0 (tb:=4) hW' rfl rfl fact_laid d_ d_ Tryz.underlying4 hb⟩
theorem FnWorldInvalid_closed:joinedFacts Tryz.prog 11 Tryz.f11 Rows.fnWorldInvalidSpec Rows.fnWorldInvalidRow=true:=
 qim d_ fact_laid fact_rows d_ d_ rfl fact_stops rfl fact_knobs d_ d_ d_ d_ d_ d_
  d_ d_ d_ d_ d_ d_ d_ (by rw[fact_keys];rfl) rfl fact_heard fact_enter (by rw[fact_final];rfl) (by rw[fact_make];rfl)
  rfl rfl d_ d_ d_
theorem FnWorldInvalid_holds:Rows.FnWorldInvalidSaid:=
 OpenClaim.holds_of_wide 11 Tryz.f11 rfl rfl rfl rfl rfl rfl rfl ⟨rfl,rfl,rfl,rfl,rfl⟩ rfl rfl rfl rfl rfl d_ Tryz.func11 FnWorldInvalid_closed
  (of_decide_eq_true d_) (by unfold Func.isWrapper;first|(rw[if_pos bm_];kernel_rfl)|(rw[if_neg bm_];exact⟨rfl,rfl⟩))
  (fun os started H enc _=>FnWorldInvalid_lifted os started H enc)
#print axioms FnWorldInvalid_holds
theorem FnWorldInvalid_card:Rows.FnWorldInvalidCardSaid:=
 Claim7.holds_tied_plain_at .later [] [.handle] true (true, "ebcbf37d782a0f13982e371d40bb5f38313c12a74d0900608be79593cce21fe8") true
  FnWorldInvalid_holds (fun _ h=>aj_) d_ (fun _ h=>aj_) fnWorldInvalid_row_tie rfl ⟨rfl,rfl⟩ ((qup rfl d_).trans d_) rfl
  (fun f fn hf hfn=>by
    obtain rfl:f=11:=Option.some.inj ((show Tryz.prog.funcNamed "loop.example/feedswarm/laws.FnWorldInvalid"=some 11 by kernel_rfl).symm.trans hf) |>.symm;obtain rfl:fn=Tryz.f11:=(Option.some.inj (Tryz.func11.symm.trans hfn)).symm;exact⟨d_,fun j t ht=>by
     rw[Tryz.params11] at ht;have hm:t ∈ [22]:=by simpa using Array.mem_of_getElem? ht
     have hall:([22].all fun u=> !Tryz.prog.wantsStandIn u)=true:=d_;exact(show Tryz.prog.wantsStandIn t=false by simpa using List.all_eq_true.1 hall t hm)⟩)
  d_
#print axioms FnWorldInvalid_card
end Go.Proofs.YtekaaekpdebloaaGreatDoor

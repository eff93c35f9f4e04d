/- PROVED HERE: the given statement Rows.FnExactWorldDoCardSaid, whole: for every World and every Event the law answers true and what came in reads as it did. -/
import Derived.Test.YtekaaekpdebloaaGreatDoorK3Ee
import Derived.Test.YtekaaekpdebloaaGreatDoorCards
import Derived.Test.YtekaaekpdebloaaGreatDoorTie
set_option linter.unusedVariables false
set_option linter.unusedSimpArgs false
set_option maxHeartbeats 12800000
set_option maxRecDepth 100000
namespace Go.Proofs.YtekaaekpdebloaaGreatDoor
open Go.ChangeShapes Go.WideShapes Go.ChangeAt Go.RowKit Go.Deep

theorem own_FnExactWorldDo:ownKnob Tryz.prog.godebug=none:=by kernel_rfl
theorem FnExactWorldDo_lifted(os:Os)(started:os.Started)(H:Type)(enc:TypeId×Value→H):
 ReturnsInHanded {} Tryz.checked os 12 .any (fun w args=>(Rows.fnExactWorldDoSpec.pre enc Tryz.prog Tryz.f12 [] false w args∧laidMetH Tryz.prog Rows.fnExactWorldDoRow.laid w)∧sizedMet enc Tryz.prog Tryz.f12 (OpenSpec.ofChange Rows.fnExactWorldDoSpec) false w args) (Rows.fnExactWorldDoSpec.post enc Tryz.prog Tryz.f12 false true false false):=by
 refine returnsInHanded_of_change_and (C:=Tryz.checked) (X:=fun w _=>laidMetH Tryz.prog Rows.fnExactWorldDoRow.laid w) (fun _ _ _ hh h=>h.of_heap hh) own_FnExactWorldDo started d_ Tryz.func12
  (ChangeSpec.witness_at (enc:=enc) (C:=Tryz.checked) (os:=os) (X:=fun w _=>laidMetH Tryz.prog Rows.fnExactWorldDoRow.laid w) false _ #[.agg #[.int .i64 0,.int .i64 0,.slice none 0 0,.slice none 0 0,.slice none 0 0,.slice none 0 0],.agg #[.int .i64 0,.int .i64 0,.int .i64 0,.int .i64 0,.string ⟨#[]⟩]] 8 rfl d_ d_ d_ d_ d_ (qua os _)) ?_
 intro W base args ds gs before hval hW _ _ hL _;have hW':=hW;obtain⟨p,q,hA0,hV,rfl,hfz,hnd⟩:=hW;have hA:DataW.TrodAll enc Tryz.prog W 0 (fun _=>true) true Tryz.f12.params.toList args.toList ds p:=hA0;rw[Tryz.params12] at hA;have hval':∀ (j:Nat) t v,Tryz.f12.params[j]? =some t→args[j]? =some v→Value.okWide Tryz.prog W .any base t v:=hval;rw[Tryz.params12] at hval';obtain⟨v0,vs0,d0,ds0,p0,q0,hargs,rfl,rfl,h0,r0⟩:=trodAll_cons hA;obtain⟨v1,vs1,d1,ds1,p1,q1,rfl,rfl,rfl,h1,r1⟩:=trodAll_cons r0;obtain⟨rfl,rfl,rfl⟩:=trodAll_nil r1;obtain rfl:args= #[v0,v1]:=by cases args;simp_all
 obtain⟨rfl,rfl⟩:=trodVars_none hV;obtain⟨x,vF,vL,vK,vN,rfl,hx,ht⟩:=qqV (hval' 0 _ v0 rfl rfl) h0;obtain⟨ev,rfl,hte⟩:=qv0 (hval' 1 _ v1 rfl rfl) h1;refine(FnExactWorldDo_any x ev.kind ev.a ev.b ev.c ev.txt vF vL vK vN W hx ht hte (qsf hL)).mono fun e W' ⟨he,hb⟩=> ?_;subst he;exact⟨_,rfl,qj0 (tb:=4) hW' rfl rfl fact_laid d_ d_ Tryz.underlying4 hb⟩
theorem FnExactWorldDo_closed:joinedFacts Tryz.prog 12 Tryz.f12 Rows.fnExactWorldDoSpec Rows.fnExactWorldDoRow=true:=
 qim d_ fact_laid fact_rows d_ d_ rfl fact_stops rfl fact_knobs d_ d_ d_ d_ d_ d_
  d_ d_ d_ d_ d_ d_ d_ (by rw[fact_keys];rfl) rfl fact_heard fact_enter (by rw[fact_final];rfl) (by rw[fact_make];rfl)
  rfl rfl d_ d_ d_
theorem FnExactWorldDo_holds:Rows.FnExactWorldDoSaid:=
 OpenClaim.holds_of_wide 12 Tryz.f12 rfl rfl rfl rfl rfl rfl rfl ⟨rfl,rfl,rfl,rfl,rfl⟩ rfl rfl rfl rfl rfl d_ Tryz.func12 FnExactWorldDo_closed
  (of_decide_eq_true d_) (by unfold Func.isWrapper;first|(rw[if_pos bm_];kernel_rfl)|(rw[if_neg bm_];exact⟨rfl,rfl⟩))
  (fun os started H enc _=>FnExactWorldDo_lifted os started H enc)
#print axioms FnExactWorldDo_holds
theorem FnExactWorldDo_card:Rows.FnExactWorldDoCardSaid:=
 Claim7.holds_tied_plain_at .later [] [.handle] true (true, "ebcbf37d782a0f13982e371d40bb5f38313c12a74d0900608be79593cce21fe8") true
  FnExactWorldDo_holds (fun _ h=>aj_) d_ (fun _ h=>aj_) fnExactWorldDo_row_tie rfl ⟨rfl,rfl⟩ ((qup rfl d_).trans d_) rfl
  (fun f fn hf hfn=>by
    obtain rfl:f=12:=Option.some.inj ((show Tryz.prog.funcNamed "loop.example/feedswarm/laws.FnExactWorldDo"=some 12 by kernel_rfl).symm.trans hf) |>.symm;obtain rfl:fn=Tryz.f12:=(Option.some.inj (Tryz.func12.symm.trans hfn)).symm;exact⟨d_,fun j t ht=>by
     rw[Tryz.params12] at ht;have hm:t ∈ [68,69]:=by simpa using Array.mem_of_getElem? ht
     have hall:([68,69].all fun u=> !Tryz.prog.wantsStandIn u)=true:=d_;exact(show Tryz.prog.wantsStandIn t=false by simpa using List.all_eq_true.1 hall t hm)⟩)
  d_
#print axioms FnExactWorldDo_card
end Go.Proofs.YtekaaekpdebloaaGreatDoor

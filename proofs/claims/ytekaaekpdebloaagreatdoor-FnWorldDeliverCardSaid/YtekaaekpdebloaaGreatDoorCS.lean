/- Words and walks of the law. -/
import Derived.Test.YtekaaekpdebloaaGreatDoorBR
import Derived.Test.YtekaaekpdebloaaGreatDoorCP
import Derived.ChangeSame
import Derived.ChangeVars
import Derived.LaidLaws
import Derived.LaidHandle
import Derived.RowKitTokens
import Derived.Stop.Joined
import Derived.KernelRfl
set_option linter.unusedVariables false
set_option linter.unusedSimpArgs false
namespace Go.Proofs.YtekaaekpdebloaaGreatDoor
open Go.RowKit Go.ChangeShapes Go.WideShapes Go.Deep

theorem qnx{n:Int}(h:(Lit.int .u8 n).wf=true):((UInt8.ofNat n.toNat).toNat:Int)=n:=by
 have h1:0≤n∧n≤255:=by
  simp[Lit.wf,IntKind.min,IntKind.max,IntKind.signed,IntKind.bits] at h;omega
 rw[UInt8.toNat_ofNat'];omega
set_option maxRecDepth 100000 in
theorem qiE{H:Type}{enc:TypeId×Value→H}{w:World}{base:Nat}{held:Bool}{v:Value}{d:DataW H}{p:List MemPlace}{r:Reach}{b0:Nat}(hv:Value.okWide Tryz.prog w r b0 22 v)(h:DataW.Trod enc Tryz.prog w base (fun _=>true) held 22 v d p):∃ bs,RU w v bs:=by
 obtain⟨a,n,c,rfl⟩:=okWide_slice Tryz.underlying22 hv;obtain⟨fuel,hf⟩:=h;obtain⟨l,h1,_⟩:=qnO (α:=UInt8) (Enc:=fun b=>Value.int .u8 (b.toNat:Int)) (Q:=fun _=>True) Tryz.underlying22 d_ (fun n V y hy=>by
  obtain⟨s,h1,_,h3⟩:=DataW.trod_int Tryz.underlying5 hy;refine⟨UInt8.ofNat s.toNat,?_,trivial⟩;rw[qnx h3];simpa using h1) hf
 exact⟨l,h1⟩
end Go.Proofs.YtekaaekpdebloaaGreatDoor
namespace Go.Proofs.YtekaaekpdebloaaGreatDoor
open Go.ChangeShapes Go.WideShapes Go.RowKit

theorem qup{P:Program}{l:List Char}(e:P.initOrder=String.ofList l)(h:qjW l=true):P.mainIs=some (true,(l.drop 8).take 64):=by
 simp only[qjW,Bool.and_eq_true,beq_iff_eq,List.all_eq_true] at h;obtain⟨⟨⟨h1,h2⟩,h3⟩,h4⟩:=h;have e1:l=l.take 8++((l.drop 8).take 64++((l.drop 72).take 5++l.drop 77)):=by
  have a:(l.drop 8).drop 64=l.drop 72:=by rw[List.drop_drop]
  have b:(l.drop 72).drop 5=l.drop 77:=by rw[List.drop_drop]
  rw[←b,List.take_append_drop,←a,List.take_append_drop,List.take_append_drop]
 unfold Program.mainIs;rw[e,String.toList_ofList];generalize(l.drop 8).take 64=s at*
 generalize l.drop 77=r at*
 rw[h1,h4] at e1;have e2:l= "harness".toList++Char.ofNat 32::(s++Char.ofNat 32::("cut".toList++Char.ofNat 32::r)):=by
  rw[e1];simp
 rw[e2,qef _ _ e_,qef _ _ (fun c hc e=>by have:=h2 c hc;rw[e] at this;exact absurd this e_)];simp only[h3];rfl
theorem qt8:Tryz.prog.globalNamed "errors.errorType"=some 0:=by kernel_rfl
theorem qub:(Tryz.prog.cutTypes.find? (·.1== "internal/reflectlite.rtype")).map (·.2)=some 276:=by kernel_rfl
theorem quq:((List.range 324).filter fun t=>Tryz.prog.rowNamed t [101,114,114,111,114])=[217]:=by kernel_rfl
theorem qtx:Tryz.prog.types.size=324:=by kernel_rfl
theorem qsf{W:World}(h:laidMetH Tryz.prog [("errors.errorType",Rows.laid_errors_errorType)] W):qsC W:=by
 have h':laidMet Tryz.prog [] W∧handlesMet Tryz.prog [("errors.errorType",Rows.laid_errors_errorType)] W:=h;obtain⟨name,u,ty,e1,e2,e3,e4,e5⟩:=h'.2 _ (List.mem_singleton.2 rfl);have en:name=[101,114,114,111,114]:=(Option.some.inj e1).symm;subst en;obtain rfl:=Option.some.inj (qub.symm.trans e2);have hm:ty ∈ (List.range 324).filter fun t=>Tryz.prog.rowNamed t [101,114,114,111,114]:=List.mem_filter.2 ⟨List.mem_range.2 (by rw[←qtx];exact e3),e4⟩;rw[quq] at hm;obtain rfl:=List.mem_singleton.1 hm;have hh:typeHandle Tryz.prog 217=.pointer (some ⟨1,217,none⟩):=d_;rw[hh] at e5;unfold qsC;simpa using World.var?_cell qt8 e5 0
theorem qua(os:Os)(args:Array Value):laidMetH Tryz.prog [("errors.errorType",Rows.laid_errors_errorType)] (({World.holding Tryz.prog os ⟨#[],#[],[]⟩ with heap:=(World.holding Tryz.prog os ⟨#[],#[],[]⟩).heap.modify 0 fun|.cells _ t frozen=>.cells #[.iface 276 (.agg #[.pointer (some ⟨1,217,none⟩)])] t frozen|o=>o}:World).forCall (fun _ _=>0) ⟨#[],args,[]⟩).memory:=
 laidMetH_of_parts (laidMet_nil _ _) d_
end Go.Proofs.YtekaaekpdebloaaGreatDoor

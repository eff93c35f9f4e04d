/- Words and walks of the law. -/
import Derived.Test.YtekaaekpdebloaaGreatDoorBZ
set_option linter.unusedVariables false
set_option linter.unusedSimpArgs false
namespace Go.Proofs.YtekaaekpdebloaaGreatDoor

section
variable {x:Wd}
theorem quS{α:Type}{l:List α}{j:Nat}(h:j<l.length)(a d:α):(l.set j a).getD j d=a:=by
 rw[List.getD_eq_getElem?_getD,List.getElem?_set_self h];rfl
theorem qve{l:List (Int×Int)}{a:Int×Int}{en:Bool}(h:(qfs l a en).2=true):(qfs l a en).1=l++[a]:=by
 unfold qfs at h ⊢;generalize(if en=true then 2 else 1)=m at h ⊢
 by_cases k1:(qaG l&&qcB a)=true
 · rw[if_pos k1] at h ⊢;by_cases k2:(qc8 l a||decide (3≤qcX l a.1)||decide (m≤qdL l a.2))=true
   · rw[if_pos k2] at h;cases h
   · rw[if_neg k2]
 · rw[if_neg k1] at h;cases h
structure KB (f g:Fd):Prop where
 len:f.hd.len≤g.hd.len
 hv:∀ i,f.hv.getD i false=true→g.hv.getD i false=true∧g.bl.getD i qfo=f.bl.getD i qfo
theorem KB.refl(f:Fd):KB f f:=⟨Int.le_refl _,fun _ h=>⟨h,rfl⟩⟩
theorem KB.same{y:Wd}(e:y.feeds=x.feeds)(i:Nat):KB (x.feeds.getD i Fd.none) (y.feeds.getD i Fd.none):=by rw[e];exact .refl _
theorem qvh(e:Ev):(wdo x e).feeds.length=x.feeds.length:=by
 unfold wdo;repeat' split
 · unfold qd1;split <;> simp
 iterate 2
  · unfold qeh;split <;> rfl
 · unfold qa0;split <;> simp
 · unfold qiT;split <;> rfl
 · unfold qbO;split <;> rfl
 iterate 2
  · unfold qgz;split
    · split
      · rfl
      · unfold qd2;split
        · rfl
        · split <;> simp
    · rfl
 · rfl
end
section
variable {x:Wd}
end
section
variable {x:Wd}
end
end Go.Proofs.YtekaaekpdebloaaGreatDoor

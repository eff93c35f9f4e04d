/- Words and walks of the law. -/
import Derived.Test.YtekaaekpdebloaaGreatDoorBZ
set_option linter.unusedVariables false
set_option linter.unusedSimpArgs false
namespace Go.Proofs.YtekaaekpdebloaaGreatDoor
open Go.RowKit
attribute [local go_sem ↓] Go.wp_at_zero Go.wp_at_succ

set_option maxHeartbeats 800000 in
theorem qvZ(x:Wd)(a b:Int)(vF vL vA vN:Value)(w:World)(hL:RP w vL x.links):
 Calls Tryz.prog 27 #[.agg #[.int .i64 x.sec,.int .i64 x.bad,vF,vL,vA,vN],.int .i64 a,.int .i64 b] w fun e w'=>e=.returned (.bool (qbk x a b))∧Below w.heap.size w w':=by
 obtain⟨s,bd,fs,l,ks,ps⟩:=x;unfold qbk;simp only at hL ⊢;obtain⟨W0,HW0⟩:=nm_ (w.alloc (.cells #[.int .i64 s,.int .i64 bd,vF,vL,vA,vN] 28));have HB0:Hid (Below w.heap.size w W0):=hI_ q_;obtain⟨A,c,rfl⟩:=hL.sl;have hp:W0.heap[w.heap.size]? =some (.cells #[.int .i64 s,.int .i64 bd,vF,.slice A l.length c,vA,vN] 28 (0,0)):=by rw[←HW0.out];exact heap_alloc_new w _
 obtain⟨p0,p1,p2,p3,p4,p5,pf⟩:=qaa hp;have HV:=hI_ (hL.below HB0.out);have hm:=hL.len;unfold maxLen at hm;clear hL hp p0 p1 p2 p4 p5 pf;obtain⟨z,HK⟩:=nm_ (qbw a b);have hz1:z.1=min a b:=by rw[←HK.out];rfl
 have hz2:z.2=max a b:=by rw[←HK.out];rfl
 rw[HK.out];have hcase:(a<b∧¬ b<a∧Hid (z.1=a)∧Hid (z.2=b))∨(a=b∧Hid (z.1=a)∧Hid (z.2=a))∨(b<a∧¬ a<b∧Hid (z.1=b)∧Hid (z.2=a)):=by
  rcases Int.lt_trichotomy a b with h|h|h
  · exact .inl ⟨h,a_,hI_ a_,hI_ a_⟩
  · exact .inr (.inl ⟨h,hI_ a_,hI_ a_⟩)
  · exact .inr (.inr ⟨h,a_,hI_ a_,hI_ a_⟩)
 clear hz1 hz2;rcases hcase with⟨hab,hba,HZ1,HZ2⟩|⟨rfl,HZ1,HZ2⟩|⟨hab,hba,HZ1,HZ2⟩
 all_goals
  go_enter Tryz.func27,Tryz.ntmps27
  go_wp2
  rw[HW0.out];go_loop [7] (fun i=>∃ k:Nat,k≤l.length∧i=.int .i64 k∧qc8 (l.take k) z=false) (fun i=>l.length-(intOf i).toNat)
  case atStart=>exact⟨0,Nat.zero_le _,rfl,rfl⟩
  case round=>
   obtain⟨k,hk,rfl,hno⟩:=hrel;have HNO:=hI_ hno;clear hno;by_cases hlt:k<l.length
   case neg=>
    go_wp2
    go_ret;exact⟨qaM (qlH HNO.out a_).symm,HB0.out⟩
   obtain⟨b',o,rfl,hbs,e0,e1⟩:=HV.out.at_ hlt;have hki:(k:Int)<(l.length:Int):=a_;have hk0:(0:Int)≤(k:Int):=a_;have HSN:=hI_ (qfQ hlt z);have HAT:=hI_ (fun h=>qjo (a:=z) hlt h);generalize l[k]=y at*
   cases h1:(y.1==z.1)
   · have h1':=hI_ h1;rw[HZ1.out] at h1;go_wp2
     go_round
     case rel=>exact⟨k+1,a_,t_,by rw[HSN.out,HNO.out,h1'.out];rfl⟩
     case measure=>simp[intOf];omega
   cases h2:(y.2==z.2)
   · have h1':=hI_ h1;have h2':=hI_ h2;rw[HZ1.out,beq_iff_eq] at h1;rw[HZ2.out] at h2;go_wp2
     go_round
     case rel=>exact⟨k+1,a_,t_,by rw[HSN.out,HNO.out,h1'.out,h2'.out];rfl⟩
     case measure=>simp[intOf];omega
   · have h1':=hI_ h1;have h2':=hI_ h2;rw[HZ1.out,beq_iff_eq] at h1;rw[HZ2.out,beq_iff_eq] at h2;go_wp2
     go_ret;exact⟨qaM (HAT.out (by rw[h1'.out,h2'.out];rfl)).symm,HB0.out⟩
end Go.Proofs.YtekaaekpdebloaaGreatDoor

/- Words and walks of the law. -/
import Derived.Test.YtekaaekpdebloaaGreatDoorTd5
import Derived.Test.YtekaaekpdebloaaGreatDoorBZ5
set_option linter.unusedVariables false
set_option linter.unusedSimpArgs false
set_option maxHeartbeats 12800000
set_option maxRecDepth 100000
namespace Go.Proofs.YtekaaekpdebloaaGreatDoor
open Go.RowKit
attribute [local go_sem ↓] Go.wp_at_zero Go.wp_at_succ

theorem qir(x:Wd)(t:ByteArray)(vF vL vA vN:Value)(w:World)(hx:WdS w x vF vL vA vN)(hm:Sml x)(hn:0<x.feeds.length)(ht:∀ s ∈ x.f0.bl,s.size≤maxLen):
 Calls Tryz.prog 117 #[.agg #[.int .i64 x.sec,.int .i64 x.bad,vF,vL,vA,vN],.string t] w (qhd w (qd1 x t)):=by
 obtain⟨s,b,fs,ls,ks,ps⟩:=x;have HM:=hI_ hm;have HT:=hI_ ht;simp only at hn;clear hm ht;obtain⟨W0,HW0⟩:=nm_ ((w.alloc (.cells #[.int .i64 s,.int .i64 b,vF,vL,vA,vN] 28)).alloc (.cells #[.int .i64 0,.int .i64 0,.slice none 0 0,.slice none 0 0,.slice none 0 0,.slice none 0 0] 28));have HB0:Hid (bB w W0):=hI_ r_;have hs0:w.heap.size+2=W0.heap.size:=by rw[←HW0.out];simp
 have HP0:Hid (W0.heap[w.heap.size]? =some (.cells #[.int .i64 s,.int .i64 b,vF,vL,vA,vN] 28 (0,0))):=hI_ M_;have HZ0:Hid (W0.heap[w.heap.size+1]? =some (.cells #[.int .i64 0,.int .i64 0,.slice none 0 0,.slice none 0 0,.slice none 0 0,.slice none 0 0] 28 (0,0))):=hI_ D_;have HX0:Hid (WdS W0 ⟨s,b,fs,ls,ks,ps⟩ vF vL vA vN):=hI_ (hx.below HB0.out);have hl0:w.heap.size<W0.heap.size:=a_;have hl1:w.heap.size+1<W0.heap.size:=a_;have HX:=hI_ hx;clear hx hs0;obtain⟨fA,fc,rfl⟩:=HX0.out.r.feeds.sl;obtain⟨lA,lc,rfl⟩:=HX0.out.r.links.sl;obtain⟨aA,ac,rfl⟩:=HX0.out.r.asked.sl;obtain⟨nA,nc,rfl⟩:=HX0.out.r.net.sl;obtain⟨p0,p1,p2,p3,p4,p5,pf⟩:=qaa HP0.out;have hno:∀ x':Wd,x'=⟨s,b,fs,ls,ks,ps⟩→qhd w x' (.returned (.agg #[.int .i64 s,.int .i64 b,.slice fA fs.length fc,.slice lA ls.length lc,.slice aA ks.length ac,.slice nA ps.length nc]))
  ((w.alloc (.cells #[.int .i64 s,.int .i64 b,.slice fA fs.length fc,.slice lA ls.length lc,.slice aA ks.length ac,.slice nA ps.length nc] 28)).alloc (.cells #[.int .i64 s,.int .i64 b,.slice fA fs.length fc,.slice lA ls.length lc,.slice aA ks.length ac,.slice nA ps.length nc] 28)):=by
  rintro x' rfl;exact⟨_,_,_,_,rfl,HX.out.below (qab (qab (bR_ _ _) _) _),qab (qab (bR_ _ _) _) _⟩
 have HNO:=hI_ hno;clear hno;obtain⟨b0,o0,xb,xh,hA,hbs,f0,f1,f2,f3,f4,f5,hF⟩:=HX.out.r.feeds.at_ hn;subst hA;obtain⟨xA,xc,rfl⟩:=hF.bl.sl';have hf0:(⟨s,b,fs,ls,ks,ps⟩:Wd).f0=fs[0]:=qam hn _;have HF0:=hI_ hf0;have hn':(0:Int)<(fs.length:Int):=a_;simp only[Nat.zero_mul,Nat.add_zero] at f0 f1 f2 f3 f4 f5;clear hF hf0;by_cases h8:8<t.size
 · have h8':(8:Int)<(t.size:Int):=a_;have HR:Hid (qd1 ⟨s,b,fs,ls,ks,ps⟩ t=⟨s,b,fs,ls,ks,ps⟩):=hI_ (by unfold qd1;rw[if_pos (.inl h8)]);clear h8 f0 f1 f2 f3 f4 f5 p0 p1 p2 p3 p4 p5 pf;go_enter Tryz.func117,Tryz.ntmps117
   go_wp2_with fail
   refine bodyPost_ret (v:=.agg #[.int .i64 s,.int .i64 b,.slice (some ⟨b0,o0,none⟩) fs.length fc,.slice lA ls.length lc,.slice aA ks.length ac,.slice nA ps.length nc]) (by simp[results,Tryz.results117,go_sem]) rfl (HNO.out _ HR.out)
 have h8':¬ (8:Int)<(t.size:Int):=a_;by_cases h16:16≤fs[0].bl.length
 · have h16':(16:Int)≤(fs[0].bl.length:Int):=a_;have HR:Hid (qd1 ⟨s,b,fs,ls,ks,ps⟩ t=⟨s,b,fs,ls,ks,ps⟩):=hI_ (by unfold qd1;rw[HF0.out,if_pos (.inr h16)]);clear h16 f0 f1 f2 f3 f5 p0 p1 p2 p3 p4 p5 pf;go_enter Tryz.func117,Tryz.ntmps117
   go_wp2_with fail
   refine bodyPost_ret (v:=.agg #[.int .i64 s,.int .i64 b,.slice (some ⟨b0,o0,none⟩) fs.length fc,.slice lA ls.length lc,.slice aA ks.length ac,.slice nA ps.length nc]) (by simp[results,Tryz.results117,go_sem]) rfl (HNO.out _ HR.out)
 have h16':¬ (16:Int)≤(fs[0].bl.length:Int):=a_;have HR:Hid (qd1 ⟨s,b,fs,ls,ks,ps⟩ t={(⟨s,b,fs,ls,ks,ps⟩:Wd) with feeds:=fs.set 0 (fs[0].more s t)}):=hI_ (by unfold qd1;rw[HF0.out,if_neg a_]);go_enter Tryz.func117,Tryz.ntmps117
 go_wp2_with fail
 rw[HW0.out];refine(qcO ⟨s,b,fs,ls,ks,ps⟩ _ _ _ _ W0 HX0.out HM.out).mono ?_;rintro e wk ⟨uF,uL,uA,uN,rfl,hC,hbc⟩;obtain⟨gF,cF,rfl,hgF,hgl⟩:=hC.feeds.form hn;obtain⟨uLA,uLc,rfl⟩:=hC.links.sl;obtain⟨uAA,uAc,rfl⟩:=hC.asked.sl;obtain⟨uNA,uNc,rfl⟩:=hC.net.sl;obtain⟨a,bb,q0,q1,q2,q3,q4,q5,hfo,hoth⟩:=hC.feeds.zero hn;obtain⟨curF,hty⟩:=hC.feeds.ty;simp only at q0 q1 q2 q3 q4 q5 hfo hoth hty;obtain⟨aA',ac',rfl⟩:=hfo.bl.sl;obtain⟨bA',bc',rfl⟩:=hfo.hv.sl;obtain⟨f,HFF⟩:=nm_ (fs[0]);rw[HFF.out] at q0 q1 q2 q3 q4 q5 hfo hoth h16 h16';have HT':Hid (∀ s ∈ f.bl,s.size≤maxLen):=hI_ (by rw[←HFF.out,←HF0.out];exact HT.out);have HFL:Hid (f.bl.length≤1000000∧f.hv.length≤1000000):=hI_ (by rw[←HFF.out];exact HM.out.b 0 hn);have HFF2:Hid (fs[0]=f):=hI_ HFF.out;have HFO:=hI_ hfo;have HC:=hI_ hC;have HOTH:=hI_ hoth;have HTY:=hI_ hty;have hsc:=hbc.size;clear hC hoth hty f0 f1 f2 f3 f4 f5 p0 p1 p2 p3 p4 p5 pf HM HT HF0 HFF hn';have hb5:bB wk (wk.alloc (.cells #[.int .i64 s,.int .i64 b,.slice (some ⟨gF,0,none⟩) fs.length cF,.slice uLA ls.length uLc,.slice uAA ks.length uAc,.slice uNA ps.length uNc] 28)):=qab (bR_ _ _) _;have hfb1:=FB.made (hfo.below hb5);have hra:∀ r,(Value.slice aA' f.bl.length ac').ownBlock=some r→W0.heap.size≤r∧r<wk.heap.size:=hfo.bl.lt;have hrb:∀ r,(Value.slice bA' f.hv.length bc').ownBlock=some r→W0.heap.size≤r∧r<wk.heap.size:=hfo.hv.lt;obtain⟨W1,HW1⟩:=nm_ ((wk.alloc (.cells #[.int .i64 s,.int .i64 b,.slice (some ⟨gF,0,none⟩) fs.length cF,.slice uLA ls.length uLc,.slice uAA ks.length uAc,.slice uNA ps.length uNc] 28)).alloc (.cells #[.int .i64 f.pub,.int .i64 f.hd.len,.int .i64 f.hd.dg,.int .i64 f.hd.sg,.slice aA' f.bl.length ac',.slice bA' f.hv.length bc'] 50));have hs1:W1.heap.size=wk.heap.size+2:=by rw[←HW1.out];simp
 have hv1:W1.heap[wk.heap.size]? =some (.cells #[.int .i64 s,.int .i64 b,.slice (some ⟨gF,0,none⟩) fs.length cF,.slice uLA ls.length uLc,.slice uAA ks.length uAc,.slice uNA ps.length uNc] 28 (0,0)):=by rw[←HW1.out];exact qau (heap_alloc_new _ _)
 have hO1:Oth wk.heap.size (fun k=>(Value.slice aA' f.bl.length ac').ownBlock=some k∨(Value.slice bA' f.hv.length bc').ownBlock=some k) wk W1:=by rw[←HW1.out];exact(Oth.refl.alloc _).alloc _
 have hB1:bB W0 W1:=by rw[←HW1.out];exact qab (qab hbc _) _
 rw[HW1.out] at hfb1;simp only[World.size_alloc] at hfb1;have HS1:=hI_ hs1;have HV1:=hI_ hv1;have HO1:=hI_ hO1;have HB1:=hI_ hB1;have HRA:=hI_ hra;have HRB:=hI_ hrb;have HFB1:=hI_ hfb1;clear hs1 hv1 hO1 hB1 hb5 hra hrb hfb1 hfo;go_upto_region 7 with(first
  |(at_builtin;rw[HW1.out];refine qmw (n:=wk.heap.size+1+1) HS1.out HFB1.out.fo.bl a_ HB1.out.size rfl rfl rfl rfl ?_;intro v7 w7 ho7 hg7;obtain⟨A7,n7,c7,rfl,hn7⟩:=ho7.sl2
    obtain⟨m0,m1,m2,m3,m4,m5,mf⟩:=qaa (HFB1.out.gb hg7);obtain⟨W8,HW8⟩:=nm_ (w7.setCell ⟨wk.heap.size+1,4,none⟩ (.slice A7 n7 c7));have hfb8:=HFB1.out.set4 hg7 ho7;have hO8:=(HO1.out.grown hg7 (fun r hr=>.inr (.inl hr))).set (q:=wk.heap.size+1) (.inl (Nat.le_succ _)) 4 (.slice A7 n7 c7);have hB8:bB W0 (w7.setCell ⟨wk.heap.size+1,4,none⟩ (.slice A7 n7 c7)):=qaN (HB1.out.grown hg7 HB1.out.size (fun r hr=>(HRA.out r hr).1)) a_;have hv8:(w7.setCell ⟨wk.heap.size+1,4,none⟩ (.slice A7 n7 c7)).heap[wk.heap.size]? =_:=(Below.heap_setCell _ _ _ _ (by show wk.heap.size≠wk.heap.size+1;omega)).trans ((hg7.block _ (by rw[HS1.out];omega) (fun e=>Nat.lt_irrefl _ (HRA.out _ e.symm).2)).trans HV1.out);have hs8:(w7.setCell ⟨wk.heap.size+1,4,none⟩ (.slice A7 n7 c7)).heap.size=w7.heap.size:=k_;have hl8:=hg7.size;rw[HW8.out] at hfb8 hO8 hB8 hv8 hs8;have HFB8:=hI_ hfb8;have HO8:=hI_ hO8;have HB8:=hI_ hB8;have HV8:=hI_ hv8;have HS8:=hI_ hs8;have HL8:Hid (wk.heap.size+2≤w7.heap.size):=hI_ (by rw[←HS1.out];exact hl8);clear hfb8 hO8 hB8 hv8 hs8 hl8)
  |(at_builtin;rw[HW8.out];refine qhZ (n:=w7.heap.size) HS8.out HFB8.out.fo.hv (by have:=HFL.out.2;show f.hv.length≤_;omega) HB8.out.size rfl rfl rfl rfl ?_;intro v9 w9 ho9 hg9;obtain⟨A9,n9,c9,rfl,hn9⟩:=ho9.sl2
    obtain⟨j0,j1,j2,j3,j4,j5,jf⟩:=qaa (HFB8.out.gh hg9);obtain⟨W10,HW10⟩:=nm_ (w9.setCell ⟨wk.heap.size+1,5,none⟩ (.slice A9 n9 c9));have hfb10:=HFB8.out.set5 hg9 ho9;have hO10:=(HO8.out.grown hg9 (fun r hr=>.inr (.inr hr))).set (q:=wk.heap.size+1) (.inl (Nat.le_succ _)) 5 (.slice A9 n9 c9);have hB10:bB W0 (w9.setCell ⟨wk.heap.size+1,5,none⟩ (.slice A9 n9 c9)):=qaN (HB8.out.grown hg9 HB8.out.size (fun r hr=>(HRB.out r hr).1)) a_;have hv10:(w9.setCell ⟨wk.heap.size+1,5,none⟩ (.slice A9 n9 c9)).heap[wk.heap.size]? =_:=(Below.heap_setCell _ _ _ _ (by show wk.heap.size≠wk.heap.size+1;omega)).trans ((hg9.block _ (by rw[HS8.out];have:=HL8.out;omega) (fun e=>Nat.lt_irrefl _ (HRB.out _ e.symm).2)).trans HV8.out);have hl10:w7.heap.size≤w9.heap.size:=by have:=hg9.size;rw[HS8.out] at this;exact this
    rw[HW10.out] at hfb10 hO10 hB10 hv10;have HFB10:=hI_ hfb10;have HO10:=hI_ hO10;have HB10:=hI_ hB10;have HV10:=hI_ hv10;have HL10:=hI_ hl10;clear hfb10 hO10 hB10 hv10 hl10))
 rw[HW10.out];obtain⟨h,ok,HH⟩:∃ h ok,Hid (qbJ s (lvs (f.bl++[t]))=(h,ok)):=⟨_,_,hI_ rfl⟩
 have HTT:Hid (∀ s ∈ f.bl++[t],s.size≤maxLen):=hI_ (by
  intro s' hs';rcases List.mem_append.1 hs' with h1|h1
  · exact HT'.out _ h1
  · rw[List.mem_singleton.1 h1];unfold maxLen;omega)
 have hlp:w.heap.size<W10.heap.size:=nL_ hl0 HB10.out.size;have hlz:wk.heap.size+1<W10.heap.size:=HFB10.out.lt;have hp10:W10.cell? ⟨w.heap.size,0,none⟩=some (.int .i64 s):=(qaa ((HB10.out.block _ hl0).trans HP0.out)).1;have hz10:W10.cell? ⟨wk.heap.size+1,4,none⟩=some (.slice A7 n7 c7):=HFB10.out.c4;have HRS:Hid (RS W10 (.slice A7 n7 c7) (f.bl++[t])):=hI_ HFB10.out.fo.bl.r1;have HLN:Hid ((f.bl++[t]).length≤10000000000):=hI_ (by have:=HFL.out.1;rw[List.length_append];show f.bl.length+1≤_;omega);have HP10:=hI_ hp10;have HZ10:=hI_ hz10;clear hp10 hz10 m0 m1 m2 m3 m4 m5 mf j0 j1 j2 j3 j4 j5 jf q0 q1 q2 q3 q4 q5;go_cut [7] (fun s7 wx=>qnq W10.heap.size W10 wx h s7)
 case first=>
  go_region_held3 (fun w'=>w'.cell? ⟨w.heap.size,0,none⟩=some (.int .i64 s)∧w'.cell? ⟨wk.heap.size+1,4,none⟩=some (.slice A7 n7 c7))
   (with_reducible refine⟨Eq.trans (Below.cell (B:=W10.heap.size) ?_ hlp) HP10.out,Eq.trans (Below.cell (B:=W10.heap.size) ?_ hlz) HZ10.out⟩ <;> (with_reducible repeat(first|exact bR_ _ _|exact hb011|exact hb012|refine qab ?_ _|refine qac ?_|refine qaN ?_ a_));done)
   (first
     |(go_at_call 130;refine(qdC (f.bl++[t]) _ _ (HRS.out.below L_) HLN.out HTT.out).mono ?_;rintro e w11 ⟨v11,rfl,ho11,hb11⟩
       have hb011:bB W10 w11:=qb6 L_ hb11;have hs11:=hb011.size;try(have hz11:=(hb11.block _ (qaB _ _)).trans (heap_alloc_new _ _);obtain⟨k0,k1,k2,kf⟩:=qaS hz11))
     |(go_at_call 133;refine(qfD HH.out _ _ (by first|exact ho11.r1|exact ho11.r1.alloc _)).mono ?_;rintro e w12 ⟨rfl,hb12⟩
       have hb012:bB W10 w12:=qb6 L_ hb12;have hs12:=hb012.size;try(have hz12:=(hb12.block _ (qaB _ _)).trans (heap_alloc_new _ _);obtain⟨k0,k1,k2,kf⟩:=qaS hz12)
       try(have hz12:=(hb12.block _ (qai hz11)).trans hz11;obtain⟨k0,k1,k2,kf⟩:=qaS hz12)))
  all_goals
   go_wp2
   go_meet
  · exact qnH hb012 hs12
  · exact qlK hb012 hz12 hs11
  · exact qlK hb012 hz12 (nr_ _)
 case rest=>
  obtain⟨y,rfl,hy,hbx,hyg⟩:=hcut;obtain⟨Wx,rfl⟩:∃ W,W=wc:=⟨_,rfl⟩
  have hfbx:=HFB10.out.below hbx;have hvx:=(hbx.block wk.heap.size a_).trans HV10.out;have hBx:=HB10.out.trans (hbx.mono HB10.out.size);have hOx:=HO10.out.below hbx;have hzx:=(hBx.block _ hl1).trans HZ0.out;have hfX:=HOTH.out _ hOx;obtain⟨⟨F,hF⟩,hFf,_⟩:=hfX.cells;have r0:=hF 0 a_;have r1:=hF 1 a_;have r2:=hF 2 a_;have r3:=hF 3 a_;have r4:=hF 4 a_;have r5:=hF 5 a_;have HHF:=hI_ hFf;have HFX:=hI_ hfX;clear hF hfX hFf;have hFf:=HHF.out;obtain⟨y0,y1,y2,yf⟩:=qaS hy;have c0:Wx.cell? ⟨wk.heap.size+1,0,none⟩=some (.int .i64 f.pub):=hfbx.c0;have c1:Wx.cell? ⟨wk.heap.size+1,1,none⟩=some (.int .i64 f.hd.len):=hfbx.c1;have c2:Wx.cell? ⟨wk.heap.size+1,2,none⟩=some (.int .i64 f.hd.dg):=hfbx.c2;have c3:Wx.cell? ⟨wk.heap.size+1,3,none⟩=some (.int .i64 f.hd.sg):=hfbx.c3;have c4:Wx.cell? ⟨wk.heap.size+1,4,none⟩=some (.slice A7 n7 c7):=hfbx.c4;have c5:Wx.cell? ⟨wk.heap.size+1,5,none⟩=some (.slice A9 n9 c9):=hfbx.c5;have cf:∀ o,Wx.frozen? ⟨wk.heap.size+1,o,none⟩=false:=hfbx.fz;obtain⟨v0,v1,v2,v3,v4,v5,vf⟩:=qaa hvx;obtain⟨z0,z1,z2,z3,z4,z5,zf⟩:=qaa hzx;have n1:gF≠wk.heap.size:=a_;have n2:gF≠wk.heap.size+1:=a_;have n3:wk.heap.size≠gF:=a_;have n4:wk.heap.size+1≠gF:=a_;have n5:w.heap.size+1≠gF:=a_;have n6:gF≠w.heap.size+1:=a_;have n7':w.heap.size+1≠wk.heap.size:=a_;have n8:wk.heap.size≠w.heap.size+1:=a_;have n9':w.heap.size+1≠wk.heap.size+1:=a_;have HFBX:=hI_ hfbx;have HBX:=hI_ hBx;have HOX:=hI_ hOx;have HZX:=hI_ hzx;have HGL:=hI_ hgl;have HGF:=hI_ hgF;have HN:=hI_ hn;have HSC:=hI_ hsc;have HY:=hI_ hyg;clear hfbx hvx hBx hOx hzx hy hbx hgl hgF hsc hyg hlp hlz;go_wp2_with fail
  have hmore:fs[0].more s t=⟨f.pub,h,f.bl++[t],f.hv++[true]⟩:=by
   have e1:(qbJ s (lvs (f.bl++[t]))).1=h:=by rw[HH.out]
   have e:=HFF2.out;subst e;unfold Fd.more;exact congrArg (fun q=>Fd.mk fs[0].pub q (fs[0].bl++[t]) (fs[0].hv++[true])) e1
  have hfb12:FB W0.heap.size (wk.heap.size+1) _ ⟨f.pub,h,f.bl++[t],f.hv++[true]⟩ _ _:=((HFBX.out.set1 h.len).set2 h.dg).set3 h.sg;have hO12:=(((HOX.out.set (q:=wk.heap.size+1) (.inl (Nat.le_succ _)) 1 (.int .i64 h.len)).set (q:=wk.heap.size+1) (.inl (Nat.le_succ _)) 2 (.int .i64 h.dg)).set (q:=wk.heap.size+1) (.inl (Nat.le_succ _)) 3 (.int .i64 h.sg))
  have hzw:W0.heap.size≤wk.heap.size+1:=by have:=HSC.out;omega
  have hB12:bB W0 _:=qaN (i:=3) (v:=.int .i64 h.sg) (qaN (i:=2) (v:=.int .i64 h.dg) (qaN (i:=1) (v:=.int .i64 h.len) HBX.out hzw) hzw) hzw;obtain⟨W12,HW12⟩:=nm_ (((Wx.setCell ⟨wk.heap.size+1,1,none⟩ (.int .i64 h.len)).setCell ⟨wk.heap.size+1,2,none⟩ (.int .i64 h.dg)).setCell ⟨wk.heap.size+1,3,none⟩ (.int .i64 h.sg));rw[HW12.out] at hfb12 hO12 hB12 ⊢;have hput:=(HOTH.out _ hO12).put HN.out (hfb12.fo.stb e_ e_);simp only[Nat.zero_mul,Nat.zero_add] at hput;have hB18:=qeZ (o:=0) hB12 HGF.out (.int .i64 f.pub) (.int .i64 h.len) (.int .i64 h.dg) (.int .i64 h.sg) (.slice A7 n7 c7) (.slice A9 n9 c9);simp only[Nat.zero_add] at hB18;have hO18:=(hO12.mono (Y:=fun k=>(Value.slice aA' f.bl.length ac').ownBlock=some k∨(Value.slice bA' f.hv.length bc').ownBlock=some k∨k=gF) (fun k hk=>by rcases hk with hk|hk;exact .inl hk;exact .inr (.inl hk))).put6 (o:=0) (q:=gF) (.inr (.inr (.inr rfl))) (.int .i64 f.pub) (.int .i64 h.len) (.int .i64 h.dg) (.int .i64 h.sg) (.slice A7 n7 c7) (.slice A9 n9 c9);simp only[Nat.zero_add] at hO18;obtain⟨W18,HW18⟩:=nm_ (((((((W12.setCell ⟨gF,0,none⟩ (.int .i64 f.pub)).setCell ⟨gF,1,none⟩ (.int .i64 h.len)).setCell ⟨gF,2,none⟩ (.int .i64 h.dg)).setCell ⟨gF,3,none⟩ (.int .i64 h.sg)).setCell ⟨gF,4,none⟩ (.slice A7 n7 c7)).setCell ⟨gF,5,none⟩ (.slice A9 n9 c9)));rw[HW18.out] at hput hB18 hO18 ⊢;obtain⟨curF,hty⟩:=HC.out.feeds.ty;have hkeep:∀ T:List TypeId,9 ∉ T→4 ∉ T→50 ∉ T→qaA T wk W18:=fun T h1 h2 h3=>hO18.keep (fun k cur e fr hx hk=>by
   rcases hx with hx|hx|hx
   · obtain⟨c2,fr2,h5⟩:=HFO.out.bl.row k hx;rw[hk] at h5;cases h5;exact h1
   · obtain⟨c2,fr2,h5⟩:=HFO.out.hv.row k hx;rw[hk] at h5;cases h5;exact h2
   · subst hx;rw[hk] at hty;cases hty;exact h3)
  have hz18:=(hB18.block _ hl1).trans HZ0.out;have hall:WdS W18 {(⟨s,b,fs,ls,ks,ps⟩:Wd) with feeds:=fs.set 0 (fs[0].more s t)} (.slice (some ⟨gF,0,none⟩) fs.length cF) (.slice uLA ls.length uLc) (.slice uAA ks.length uAc) (.slice uNA ps.length uNc):=
   WdS.of (by rw[hmore];exact hput) ((HC.out.links.next (T:=[99]) (hkeep _ e_ e_ e_) e_).stb e_) (HC.out.asked.next (hkeep _ e_ e_ e_)).stb (HC.out.net.next (hkeep _ e_ e_ e_)).stb
  obtain⟨z0,z1,z2,z3,z4,z5,zf⟩:=qaa hz18;refine bodyPost_ret (v:=.agg #[.int .i64 s,.int .i64 b,.slice (some ⟨gF,0,none⟩) fs.length cF,.slice uLA ls.length uLc,.slice uAA ks.length uAc,.slice uNA ps.length uNc]) (by simp[results,Tryz.results117,go_sem,z0,z1,z2,z3,z4,z5]) rfl ?_;rw[HR.out];exact⟨_,_,_,_,rfl,hall.set6 hz18 _ _ _ _ _ _,qae (HB0.out.trans (hB18.mono (Nat.le_of_lt hl0))) (Nat.le_succ _) _ _ _ _ _ _⟩
structure qg6 (g P:Nat) (w:World) (q y:Nat) (x:Wd) (vF vL vA vN:Value) (wr:World):Prop where
 z:wr.heap[q]? =some (.cells #[.int .i64 0,.int .i64 0,.slice none 0 0,.slice none 0 0,.slice none 0 0,.slice none 0 0] 28 (0,0))
 b:wr.heap[y]? =some (.cells #[.int .i64 x.sec,.int .i64 x.bad,vF,vL,vA,vN] 28 (0,0))
 s:WdS wr x vF vL vA vN
 r:Rdr wr g P
 o:qbb g w wr
 d:DW x
 hq:w.heap.size=q
 hy:q<y
 hg:g<q
section
variable {g P P' q y:Nat} {w wr w2:World} {x x':Wd} {vF vL vA vN uF uL uA uN:Value}
theorem qg6.mono(h:qg6 g P w q y x vF vL vA vN wr)(hP:P≤P'):qg6 g P' w q y x vF vL vA vN wr:=⟨h.z,h.b,h.s,h.r.mono hP,h.o,h.d,h.hq,h.hy,h.hg⟩
theorem qg6.only(h:qg6 g P w q y x vF vL vA vN wr)(ho:qbb g wr w2)(hr:Rdr w2 g P'):qg6 g P' w q y x vF vL vA vN w2:=
 ⟨(ho.block _ (qai h.z) (fun e=>by have:=Option.some.inj e;have:=h.hg;omega)).trans h.z,(ho.block _ (qai h.b) (fun e=>by have:=Option.some.inj e;have:=h.hg;have:=h.hy;omega)).trans h.b,
   h.s.keep (qf7 ho h.r),hr,h.o.trans ho,h.d,h.hq,h.hy,h.hg⟩
theorem qg6.below(h:qg6 g P w q y x vF vL vA vN wr)(hb:bB wr w2):qg6 g P w q y x vF vL vA vN w2:=h.only (qbb.of_below hb) (h.r.below hb)
end
theorem WdS.sl{w:World}{x:Wd}{vF vL vA vN:Value}(h:WdS w x vF vL vA vN):(∃ A c,vF=.slice A x.feeds.length c)∧(∃ A c,vL=.slice A x.links.length c)∧(∃ A c,vA=.slice A x.asked.length c)∧∃ A c,vN=.slice A x.net.length c:=⟨h.r.feeds.sl,h.r.links.sl,h.r.asked.sl,h.r.net.sl⟩
end Go.Proofs.YtekaaekpdebloaaGreatDoor
namespace Go.Proofs.YtekaaekpdebloaaGreatDoor
open Go.RowKit

section
variable {B g j n cap:Nat} {w:World} {x:Wd} {vF vL vA vN:Value}
theorem qa1.cells(h:qa1 B w (.slice (some ⟨g,0,none⟩) n cap) x.feeds):(∃ F:Nat→Value,∀ t,t<x.feeds.length*6→w.cell? ⟨g,t,none⟩=some (F t))∧(∀ i,w.frozen? ⟨g,i,none⟩=false)∧∃ cur,w.heap[g]? =some (.cells cur 50 (0,0)):=(h.toX 0).cells
theorem qbB.cells{ls:List (List (Int×Int))}(h:qbB B w (.slice (some ⟨g,0,none⟩) n cap) ls):(∃ F:Nat→Value,∀ t,t<ls.length→w.cell? ⟨g,t,none⟩=some (F t))∧(∀ i,w.frozen? ⟨g,i,none⟩=false)∧∃ cur,w.heap[g]? =some (.cells cur 54 (0,0)):=by
 obtain⟨F,h1,h2⟩:=h;obtain⟨_,_,he⟩:=h1.rn.sl;obtain rfl:n=ls.length:=J_;obtain⟨cur,hr⟩:=h1.row0 g rfl;exact⟨⟨F,fun t ht=>(h1.at_ a_).1⟩,fun i=>qgI hr i,cur,hr⟩
theorem WdC.putA{l:List (Int×Int)}{u:Value}(h:WdC B w x vF vL (.slice (some ⟨g,0,none⟩) n cap) vN)(hj:j<x.asked.length)(hu:Stb LQ (fun w=>RP w u l) w):
 WdS (w.setCell ⟨g,j,none⟩ u) {x with asked:=x.asked.set j l} vF vL (.slice (some ⟨g,0,none⟩) n cap) vN:=by
 obtain⟨cur,hty⟩:=h.asked.ty;have k1:qaA LTF w (w.setCell ⟨g,j,none⟩ u):=qaA.set1 hty e_ u;have k2:qaA [99] w (w.setCell ⟨g,j,none⟩ u):=qaA.set1 hty e_ u;have k3:qaA LTP w (w.setCell ⟨g,j,none⟩ u):=qaA.set1 hty e_ u;exact WdS.of (h.feeds.next k1).stb ((h.links.next k2 e_).stb e_) (h.asked.put hj hu) (h.net.next k3).stb
theorem qb1{T:List TypeId}{o:Nat}{cur:Array Value}{e:TypeId}{fr:Nat×Nat}(hty:w.heap[g]? =some (.cells cur e fr))(he:e ∉ T)(x0 x1 x2 x3 x4 x5:Value):
 qaA T w ((((((w.setCell ⟨g,o,none⟩ x0).setCell ⟨g,o+1,none⟩ x1).setCell ⟨g,o+2,none⟩ x2).setCell ⟨g,o+3,none⟩ x3).setCell ⟨g,o+4,none⟩ x4).setCell ⟨g,o+5,none⟩ x5):=
 qaA.of_grown (row:=some g) (qat (qat (qat (qat (qat (qaR _ _ _) (qaR _ _ _)) (qaR _ _ _)) (qaR _ _ _)) (qaR _ _ _)) (qaR _ _ _)) (fun r hr=>by cases hr;exact⟨cur,e,_,hty,he⟩)
theorem WdC.putF{f:Fd}{vb vh:Value}(h:WdC B w x (.slice (some ⟨g,0,none⟩) n cap) vL vA vN)(hj:j<x.feeds.length)(hf:Stb LB (fun w=>qaU w f vb vh) w):
 WdS ((((((w.setCell ⟨g,j*6,none⟩ (.int .i64 f.pub)).setCell ⟨g,j*6+1,none⟩ (.int .i64 f.hd.len)).setCell ⟨g,j*6+2,none⟩ (.int .i64 f.hd.dg)).setCell ⟨g,j*6+3,none⟩ (.int .i64 f.hd.sg)).setCell ⟨g,j*6+4,none⟩ vb).setCell ⟨g,j*6+5,none⟩ vh)
  {x with feeds:=x.feeds.set j f} (.slice (some ⟨g,0,none⟩) n cap) vL vA vN:=by
 obtain⟨cur,hty⟩:=h.feeds.ty;exact WdS.of ((h.feeds.toX j).put hj hf) ((h.links.next (T:=[99]) (qb1 hty e_ _ _ _ _ _ _) e_).stb e_) (h.asked.next (qb1 hty e_ _ _ _ _ _ _)).stb (h.net.next (qb1 hty e_ _ _ _ _ _ _)).stb
end
theorem qbv{x:Wd}{a b:Int}{r:Bool}(h:Hid (qbk x a b=r))(vF vL vA vN:Value)(w:World)(hL:RP w vL x.links):
 gV 194 #[.agg #[.int .i64 x.sec,.int .i64 x.bad,vF,vL,vA,vN],.int .i64 a,.int .i64 b] w (.bool r):=by
 rw[←h.out];exact qbY x a b vF vL vA vN w hL
theorem qea{f:Fd}{i:Int}{r:Bool}(h:Hid (qiS f i=r))(vb vh:Value)(w:World)(hf:RB w vh f.hv):
 gV 197 #[.agg #[.int .i64 f.pub,.int .i64 f.hd.len,.int .i64 f.hd.dg,.int .i64 f.hd.sg,vb,vh],.int .i64 i] w (.bool r):=by
 rw[←h.out];exact qmM f i vb vh w hf
theorem qlQ{l:List Bool}{n:Nat}(h:Hid (cnt l=n))(v:Value)(w:World)(hv:RB w v l):gS 131 #[v] w (.int .i64 (n:Nat)):=by
 rw[←h.out];exact qf0 l v w hv
theorem qhW{l r:List (Int×Int)}{a:Int×Int}{en ok:Bool}(h:Hid (qfs l a en=(r,ok)))(v:Value)(w:World)(hv:RP w v l)(hl:l.length≤1000000):
 Calls Tryz.prog 177 #[v,.agg #[.int .i64 a.1,.int .i64 a.2],.bool en] w (qhV r ok w):=by
 have:=qfF l a en v w hv hl;rwa[h.out] at this
structure HW (g q z:Nat) (W0 w:World) (f:Fd) (vb vh:Value) (h:Hd) (gv:Value) (gl:List Int):Prop where
 fb:FB (g+1) q w f vb vh
 hd:w.heap[z]? =some (.cells #[.int .i64 h.len,.int .i64 h.dg,.int .i64 h.sg] 46 (0,0))
 gr:O1 (Value.int .i64) (g+1) 3 w gv gl
 bel:bB W0 w
theorem HW.below{g q z:Nat}{W0 w w':World}{f:Fd}{vb vh:Value}{h:Hd}{gv:Value}{gl:List Int}(k:HW g q z W0 w f vb vh h gv gl)(hb:bB w w'):HW g q z W0 w' f vb vh h gv gl:=
 ⟨k.fb.below hb,(hb.block z (Array.getElem?_eq_some_iff.1 k.hd).1).trans k.hd,k.gr.below hb,k.bel.trans (hb.mono k.bel.size)⟩
theorem qiU{f o:Fd}{h:Hd}{l:List Int}{c:Int}(hh:Hid (qc9 f h l=(o,c)))(vb vh lv:Value)(w:World)(hf:qaU w f vb vh)(hl:RI w lv l):
 Calls Tryz.prog 209 #[.agg #[.int .i64 f.pub,.int .i64 f.hd.len,.int .i64 f.hd.dg,.int .i64 f.hd.sg,vb,vh],.agg #[.int .i64 h.len,.int .i64 h.dg,.int .i64 h.sg],lv] w (qjI o c w):=by
 have:=qkg f h l vb vh lv w hf hl;rw[hh.out] at this;exact this
theorem qiV{f o:Fd}{h:Hd}{l:List Int}{c:Int}(hh:Hid (qc9 f h l=(o,c)))(vb vh lv:Value)(w:World)(hf:qaU w f vb vh)(hl:RI w lv l):
 Calls Tryz.prog 196 #[.agg #[.int .i64 f.pub,.int .i64 f.hd.len,.int .i64 f.hd.dg,.int .i64 f.hd.sg,vb,vh],.agg #[.int .i64 h.len,.int .i64 h.dg,.int .i64 h.sg],lv] w (qjI o c w):=by
 have:=qkh f h l vb vh lv w hf hl;rw[hh.out] at this;exact this
structure LW (B q z:Nat) (w:World) (f:Fd) (vb vh:Value) (h:Hd) (gv:Value) (gl:List Int):Prop where
 fb:FB B q w f vb vh
 hd:w.heap[z]? =some (.cells #[.int .i64 h.len,.int .i64 h.dg,.int .i64 h.sg] 46 (0,0))
 gr:RI w gv gl
section
variable {B q z:Nat} {w w':World} {f:Fd} {vb vh:Value} {h:Hd} {gv:Value} {gl:List Int}
theorem LW.below(k:LW B q z w f vb vh h gv gl)(hb:bB w w'):LW B q z w' f vb vh h gv gl:=
 ⟨k.fb.below hb,(hb.block z (Array.getElem?_eq_some_iff.1 k.hd).1).trans k.hd,k.gr.below hb⟩
end
end Go.Proofs.YtekaaekpdebloaaGreatDoor

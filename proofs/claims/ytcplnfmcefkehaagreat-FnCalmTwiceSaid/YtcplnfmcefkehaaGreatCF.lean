/- Walks: a run is drawn for the laws; whether peers are connected, whether a number is in a list, whether two lists are the same. No condition. -/
import Derived.Test.YtcplnfmcefkehaaGreatDg
set_option linter.unusedVariables false
set_option linter.unusedSimpArgs false
namespace Go.Proofs.YtcplnfmcefkehaaGreat
open Go.RowKit
attribute [local go_sem ↓] Go.wp_at_zero Go.wp_at_succ

def qfI (w : World) (e : Ending) (w' : World) : Prop := ∃ x uF uL uA uN, e = .returned (.agg #[.int .i64 x.sec, .int .i64 x.bad, uF, uL, uA, uN]) ∧ qhP x ∧ WdS w' x uF uL uA uN ∧ Below w.heap.size w w'
set_option maxHeartbeats 1600000 in
set_option maxRecDepth 100000 in
theorem qeA (bs : List UInt8) (v : Value) (w : World) (hv : RU w v bs) : Calls Tryz.prog 23 #[v] w (qfI w) := by
 obtain ⟨W0, HW0⟩ : ∃ W0, Hid (w.alloc (.cells #[.int .i64 0, .int .i64 0, .slice none 0 0, .slice none 0 0, .slice none 0 0, .slice none 0 0] 35) = W0) := ⟨_, hI_ rfl⟩
 have HB0 : Hid (Below w.heap.size w W0) := hI_ (by rw [← HW0.out]; exact (bR_ _ _).alloc (nr_ _) _)
 have HZ0 : Hid (W0.heap[w.heap.size]? = some (.cells #[.int .i64 0, .int .i64 0, .slice none 0 0, .slice none 0 0, .slice none 0 0, .slice none 0 0] 35 (0, 0))) := hI_ (by rw [← HW0.out]; exact heap_alloc_new w _)
 have hl0 : w.heap.size < W0.heap.size := by rw [← HW0.out]; simp
 have HV : Hid (RU W0 v bs) := hI_ (hv.below HB0.out)
 obtain ⟨A, c, rfl, _, _, _⟩ := hv
 go_enter Tryz.func23, Tryz.ntmps23
 go_wp2_with fail
 rw [HW0.out]
 refine (qkM bs _ W0 HV.out).mono ?_
 rintro e w1 ⟨g, rfl, hg, r1, hb1⟩
 go_wp2_with fail
 refine (qan g 0 10 w1 r1 (by omega) (by omega) (by omega)).mono ?_
 rintro e w2 ⟨y, rfl, y1, y2, r2, o2⟩
 have hg1 := r1.lt
 have HB2 := hI_ (hb1.trans (o2.below hg hg1))
 have hg2 := r2.lt
 have HRET : Hid (∀ (x : Wd) (w3 : World) (uF uL uA uN : Value), qhP x → WdS w3 x uF uL uA uN → qbb g w2 w3 → qfI w (.returned (.agg #[.int .i64 x.sec, .int .i64 x.bad, uF, uL, uA, uN])) ((((((w3.setCell ⟨w.heap.size, 0, none⟩ (.int .i64 x.sec)).setCell ⟨w.heap.size, 1, none⟩ (.int .i64 x.bad)).setCell ⟨w.heap.size, 2, none⟩ uF).setCell ⟨w.heap.size, 3, none⟩ uL).setCell ⟨w.heap.size, 4, none⟩ uA).setCell ⟨w.heap.size, 5, none⟩ uN)) := hI_ (fun x w3 uF uL uA uN h1 h2 h3 => by
  have h4 := HB2.out.trans (h3.below hg hg2)
  exact ⟨x, _, _, _, _, rfl, h1, h2.set6 ((h4.block _ hl0).trans HZ0.out) _ _ _ _ _ _, qae (HB0.out.trans (h4.mono (Nat.le_of_lt hl0))) (nr_ _) _ _ _ _ _ _⟩)
 have HBX : Hid (∀ w3 : World, qbb g w2 w3 → w3.heap[w.heap.size]? = some (.cells #[.int .i64 0, .int .i64 0, .slice none 0 0, .slice none 0 0, .slice none 0 0, .slice none 0 0] 35 (0, 0))) := hI_ (fun w3 h3 => ((HB2.out.trans (h3.below hg hg2)).block _ hl0).trans HZ0.out)
 clear hb1 o2 r1
 by_cases hy : y = 0
 · subst hy
   go_wp2_with fail
   refine (qiw g 1 w2 r2 (by omega)).mono ?_
   rintro e w3 ⟨x, uF, uL, uA, uN, rfl, hd, hs, r3, o3⟩
   obtain ⟨⟨A1, c1, rfl⟩, ⟨A2, c2, rfl⟩, ⟨A3, c3, rfl⟩, ⟨A4, c4, rfl⟩⟩ := hs.sl
   have HR := hI_ (HRET.out x w3 _ _ _ _ hd hs o3)
   obtain ⟨z0, z1, z2, z3, z4, z5, zf⟩ := qaa (HBX.out w3 o3)
   clear hd hs r3 o3
   go_wp2_with fail
   refine bodyPost_ret (v := .agg #[.int .i64 x.sec, .int .i64 x.bad, .slice A1 x.feeds.length c1, .slice A2 x.links.length c2, .slice A3 x.asked.length c3, .slice A4 x.net.length c4]) (by simp [results, Tryz.results23, go_sem, z0, z1, z2, z3, z4, z5]) rfl HR.out
 · have hy' : (y == 0) = false := by rw [beq_eq_false_iff_ne]; exact hy
   go_wp2_with fail
   refine (qfn g 1 w2 r2 (by omega)).mono ?_
   rintro e w3 ⟨x, uF, uL, uA, uN, rfl, hd, hs, r3, o3⟩
   obtain ⟨⟨A1, c1, rfl⟩, ⟨A2, c2, rfl⟩, ⟨A3, c3, rfl⟩, ⟨A4, c4, rfl⟩⟩ := hs.sl
   have HR := hI_ (HRET.out x w3 _ _ _ _ hd.drawn hs o3)
   obtain ⟨z0, z1, z2, z3, z4, z5, zf⟩ := qaa (HBX.out w3 o3)
   clear hd hs r3 o3
   go_wp2_with fail
   refine bodyPost_ret (v := .agg #[.int .i64 x.sec, .int .i64 x.bad, .slice A1 x.feeds.length c1, .slice A2 x.links.length c2, .slice A3 x.asked.length c3, .slice A4 x.net.length c4]) (by simp [results, Tryz.results23, go_sem, z0, z1, z2, z3, z4, z5]) rfl HR.out
set_option maxHeartbeats 1600000 in
theorem qdk (bs : List UInt8) (v : Value) (w : World) (hv : RU w v bs) : Calls Tryz.prog 27 #[v] w (qfI w) := by
 obtain ⟨W0, HW0⟩ : ∃ W0, Hid (w.alloc (.cells #[.int .i64 0, .int .i64 0, .slice none 0 0, .slice none 0 0, .slice none 0 0, .slice none 0 0] 35) = W0) := ⟨_, hI_ rfl⟩
 have HB0 : Hid (Below w.heap.size w W0) := hI_ (by rw [← HW0.out]; exact (bR_ _ _).alloc (nr_ _) _)
 have HZ0 : Hid (W0.heap[w.heap.size]? = some (.cells #[.int .i64 0, .int .i64 0, .slice none 0 0, .slice none 0 0, .slice none 0 0, .slice none 0 0] 35 (0, 0))) := hI_ (by rw [← HW0.out]; exact heap_alloc_new w _)
 have hl0 : w.heap.size < W0.heap.size := by rw [← HW0.out]; simp
 have HV : Hid (RU W0 v bs) := hI_ (hv.below HB0.out)
 obtain ⟨A, c, rfl, _, _, _⟩ := hv
 go_enter Tryz.func27, Tryz.ntmps27
 go_wp2_with fail
 rw [HW0.out]
 refine (qeA bs _ W0 HV.out).mono ?_
 rintro e w3 ⟨x, uF, uL, uA, uN, rfl, hd, hs, hb⟩
 obtain ⟨⟨A1, c1, rfl⟩, ⟨A2, c2, rfl⟩, ⟨A3, c3, rfl⟩, ⟨A4, c4, rfl⟩⟩ := hs.sl
 obtain ⟨z0, z1, z2, z3, z4, z5, zf⟩ := qaa ((hb.block _ hl0).trans HZ0.out)
 have HD := hI_ hd
 have HS := hI_ hs
 have HB := hI_ hb
 clear hd hs hb
 go_wp2_with fail
 refine bodyPost_ret (v := .agg #[.int .i64 x.sec, .int .i64 x.bad, .slice A1 x.feeds.length c1, .slice A2 x.links.length c2, .slice A3 x.asked.length c3, .slice A4 x.net.length c4]) (by simp [results, Tryz.results27, go_sem, z0, z1, z2, z3, z4, z5]) rfl ?_
 exact ⟨x, _, _, _, _, rfl, HD.out, HS.out.set6 ((HB.out.block _ hl0).trans HZ0.out) _ _ _ _ _ _, qae (HB0.out.trans (HB.out.mono (Nat.le_of_lt hl0))) (nr_ _) _ _ _ _ _ _⟩
end Go.Proofs.YtcplnfmcefkehaaGreat

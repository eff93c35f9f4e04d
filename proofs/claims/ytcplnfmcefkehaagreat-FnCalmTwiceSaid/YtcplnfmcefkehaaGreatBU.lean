/- Plain functions: the peers that the writer reaches; words for rows of zeros. | Walk: WorldReach of the reference. | Walk: WorldReach of the program. -/
import Derived.Test.YtcplnfmcefkehaaGreatBP
set_option linter.unusedVariables false
set_option linter.unusedSimpArgs false
namespace Go.Proofs.YtcplnfmcefkehaaGreat
open Go.RowKit

def qoI (bad : Int) (st : List Bool) (l : Int × Int) : List Bool :=
 let s1 := if st.getD l.1.toNat false && l.1 != bad then st.set l.2.toNat true else st
 if s1.getD l.2.toNat false && l.2 != bad then s1.set l.1.toNat true else s1
theorem qpe (bad : Int) (st : List Bool) (l : Int × Int) : (qoI bad st l).length = st.length := by
 unfold qoI; simp only; split <;> split <;> simp
def qoN (bad : Int) (ls : List (Int × Int)) (st : List Bool) (j : Nat) : List Bool := (ls.take j).foldl (qoI bad) st
theorem qoR {bad : Int} {ls : List (Int × Int)} {st : List Bool} {j : Nat} (h : j < ls.length) : qoN bad ls st (j + 1) = qoI bad (qoN bad ls st j) ls[j] := by
 unfold qoN; rw [List.take_succ_eq_append_getElem h, List.foldl_append]; rfl
theorem qoX (bad : Int) : ∀ (l : List (Int × Int)) (st : List Bool), (l.foldl (qoI bad) st).length = st.length
 | [], _ => rfl
 | x :: l, st => by rw [List.foldl_cons, qoX bad l, qpe]
theorem qoT {bad : Int} {ls : List (Int × Int)} {st : List Bool} {j : Nat} : (qoN bad ls st j).length = st.length := qoX bad _ _
def qoJ (bad : Int) (ls : List (Int × Int)) (n : Nat) : Nat → List Bool
 | 0 => (List.replicate n false).set 0 true
 | k + 1 => qoN bad ls (qoJ bad ls n k) ls.length
theorem qoO {bad : Int} {ls : List (Int × Int)} {n : Nat} : ∀ k, (qoJ bad ls n k).length = n
 | 0 => by simp [qoJ]
 | k + 1 => by rw [qoJ, qoT]; exact qoO k
def qoL (st : List Bool) (m : Nat) : List Int := ((List.range m).filter fun i => st.getD i false).map fun i : Nat => (i : Int)
theorem qpo {st : List Bool} {m : Nat} (h : st.getD m false = false) : qoL st (m + 1) = qoL st m := by
 unfold qoL; rw [List.range_succ, List.filter_append, List.filter_cons_of_neg (by rw [h]; simp), List.filter_nil, List.append_nil]
theorem qpj {st : List Bool} {m : Nat} (h : st.getD m false = true) : qoL st (m + 1) = qoL st m ++ [(m : Int)] := by
 unfold qoL; rw [List.range_succ, List.filter_append, List.filter_cons_of_pos (p := fun i => st.getD i false) h, List.filter_nil, List.map_append]; rfl
theorem qpi (st : List Bool) (m : Nat) : (qoL st m).length ≤ m := by
 unfold qoL; rw [List.length_map]; exact Nat.le_trans (List.length_filter_le _ _) (by simp)
def qoK (x : Wd) : List Int := if qcc x then qoL (qoJ x.bad x.links x.feeds.length x.feeds.length) x.feeds.length else []
theorem qoQ {x : Wd} (h : qcc x = true) : 1 ≤ x.feeds.length ∧ x.feeds.length ≤ 6 ∧ ∀ j (hj : j < x.links.length), 0 ≤ x.links[j].1 ∧ x.links[j].1 < x.feeds.length ∧ 0 ≤ x.links[j].2 ∧ x.links[j].2 < x.feeds.length := by
 unfold qcc at h
 simp only [Bool.and_eq_true] at h
 obtain ⟨⟨⟨⟨⟨⟨⟨h1, -⟩, -⟩, h4⟩, -⟩, -⟩, -⟩, -⟩ := h
 obtain ⟨-, a, b, -, -⟩ := qb5 h1
 refine ⟨a, b, fun j hj => ?_⟩
 have := qcS.1 h4 j hj
 unfold qdV qc5 at this
 rw [qam hj] at this
 simp only [Bool.and_eq_true] at this
 have i1 := qak.1 this.1.1
 have i2 := qak.1 this.1.2
 omega
theorem O1.zeros {α : Type} {enc : α → Value} {e : TypeId} {w : World} {n : Nat} (z : α) (hn : n ≤ maxLen) : O1 enc w.heap.size e (w.alloc (.cells (madeCells #[enc z] n) e)) (.slice (some ⟨w.heap.size, 0, none⟩) n n) (List.replicate n z) := by
 unfold O1
 rw [List.length_replicate]
 refine ⟨by simp, .inr ⟨w.heap.size, n, madeCells #[enc z] n, rfl, nr_ _, heap_alloc_new w _, nr_ _, hn, by simp [madeCells], ?_⟩⟩
 rw [List.take_of_length_le (by simp [madeCells])]
 apply List.ext_getElem (by simp [madeCells])
 intro s h1 h2
 simp [madeCells, Nat.mod_one]
section
variable {ops : Array Oper} {rest : List Oper} {o : Oper} {a : Act} {Q : Exit → Act → World → Prop} {w : World} {base : Nat} {v : Value}
theorem qpm {l : List Int} (hown : O1 (Value.int .i64) base 3 w v l) (hn : l.length ≤ 100000000000) (hbase : base ≤ w.heap.size) {y : Int} (hgd : o.guard = none) {s x : Operand}
 (ho : o.op = .call { callee := .builtin .append, args := #[s, x], argTypes := #[39, 39] }) (hs : a.eval s = v) (hx : a.eval x = .slice (some ⟨w.heap.size, 0, none⟩) 1 1)
 (h : ∀ v' w', O1 (Value.int .i64) base 3 w' v' (l ++ [y]) → w.grownBy w' v.ownBlock → wpList Tryz.prog ops Q rest (a.put o.dst v') w') : wpList Tryz.prog ops Q (o :: rest) a (w.alloc (.cells #[.int .i64 y] 3)) := by
 obtain ⟨i0, hi, hz0, hz1, hz2⟩ := info_parts qfx
 exact qle 39 3 8 i0 _ Tryz.underlying39 hi hz0 hz1 hz2 rfl (by omega) hown hn hbase rfl hgd ho hs hx h
end
theorem qpg {k gb m o : Nat} {w : World} {u : Value} (hk : k ≠ gb) : (w.setCell ⟨gb, m, none⟩ u).cell? ⟨k, o, none⟩ = w.cell? ⟨k, o, none⟩ := World.cell?_of_block (Below.heap_setCell _ _ _ _ hk)
def qpf (x : Wd) (w : World) (e : Ending) (w' : World) : Prop := ∃ v', e = .returned v' ∧ O1 (Value.int .i64) w.heap.size 3 w' v' (qoK x) ∧ Below w.heap.size w w'
theorem qoM {x : Wd} {b : Bool} (h : Hid (qcc x = b)) (vF vL vK vN : Value) (w : World) (hx : WdR w x vF vL vK vN) (ht : ∀ j (hj : j < x.net.length), x.net[j].txt.size ≤ maxLen) :
 Calls Tryz.prog 15 #[.agg #[.int .i64 x.sec, .int .i64 x.bad, vF, vL, vK, vN]] w fun e w' => e = .returned (.bool b) ∧ Below w.heap.size w w' := by
 rw [← h.out]; exact qfi x vF vL vK vN w hx ht
set_option maxHeartbeats 6400000 in
set_option maxRecDepth 100000 in
theorem qoP (x : Wd) (vF vL vK vN : Value) (w : World) (hx : WdR w x vF vL vK vN) (ht : ∀ j (hj : j < x.net.length), x.net[j].txt.size ≤ maxLen) :
 Calls Tryz.prog 18 #[.agg #[.int .i64 x.sec, .int .i64 x.bad, vF, vL, vK, vN]] w (qpf x w) := by
 obtain ⟨V, HV⟩ : ∃ V, Hid (qcc x = V) := ⟨_, hI_ rfl⟩
 have HT := hI_ ht
 obtain ⟨s, b, fs, ls, ks, ps⟩ := x
 have hF := hx.feeds
 have hL := hx.links
 have hK := hx.asked
 have hN := hx.net
 simp only at hF hL hK hN ⊢
 obtain ⟨vA, vc, rfl⟩ := hF.sl
 obtain ⟨lA, lc, rfl⟩ := hL.sl
 obtain ⟨kA, kc, rfl⟩ := hK.sl
 obtain ⟨nA, nc, rfl⟩ := hN.sl
 obtain ⟨q, HQQ⟩ : ∃ q, Hid (w.heap.size = q) := ⟨_, hI_ rfl⟩
 obtain ⟨W0, HW0⟩ : ∃ W0, Hid (w.alloc (.cells #[.int .i64 s, .int .i64 b, .slice vA fs.length vc, .slice lA ls.length lc, .slice kA ks.length kc, .slice nA ps.length nc] 35) = W0) := ⟨_, hI_ rfl⟩
 have HB0 : Hid (Below w.heap.size w W0) := hI_ (by rw [← HW0.out]; exact (bR_ _ _).alloc (nr_ _) _)
 have hp : W0.heap[w.heap.size]? = some (.cells #[.int .i64 s, .int .i64 b, .slice vA fs.length vc, .slice lA ls.length lc, .slice kA ks.length kc, .slice nA ps.length nc] 35 (0, 0)) := by
  rw [← HW0.out]; exact heap_alloc_new w _
 have hs0 : W0.heap.size = w.heap.size + 1 := by rw [← HW0.out]; simp
 have lp := (Array.getElem?_eq_some_iff.1 hp).1
 have HX := hI_ (hx.below HB0.out)
 have hm := hF.len
 have hm2 := hL.len
 unfold maxLen at hm hm2
 have HP := hI_ hp
 obtain ⟨p0, p1, p2, p3, p4, p5, pf⟩ := qaa hp
 have HS0 := hI_ hs0
 clear hx hF hL hK hN ht hp hs0
 cases V
 · have HW : Hid (qoK ⟨s, b, fs, ls, ks, ps⟩ = []) := hI_ (by unfold qoK; rw [HV.out]; rfl)
   go_enter Tryz.func18, Tryz.ntmps18
   go_wp2_with fail
   rw [HW0.out]
   refine (qoM HV _ _ _ _ W0 HX.out HT.out).mono ?_
   rintro e w1 ⟨rfl, hb1⟩
   have HB1 := hI_ (HB0.out.trans (hb1.mono HB0.out.size))
   clear p0 p1 p2 p3 p4 p5 pf hb1
   go_wp2_with fail
   go_ret
   exact ⟨_, rfl, by rw [HW.out]; exact O1.nil _ _ _ _, HB1.out⟩
 obtain ⟨hn1, hn6, hlk⟩ := qoQ HV.out
 simp only at hn1 hn6 hlk
 have HLK := hI_ hlk
 obtain ⟨n, HNN⟩ : ∃ n, Hid (fs.length = n) := ⟨_, hI_ rfl⟩
 have HWR : Hid (qoK ⟨s, b, fs, ls, ks, ps⟩ = qoL (qoJ b ls n n) n) := hI_ (by unfold qoK; rw [HV.out, HNN.out]; rfl)
 obtain ⟨i0, hi, hz0, hz1, hz2⟩ := info_parts qeM
 have hmk := fun W => run_make_row (P := Tryz.prog) 57 4 i0 (.bool false) Tryz.underlying57 hi hz0 hz1 rfl .i64 .i64 fs.length (by rw [hz2]; omega) (by omega) W
 clear hlk
 have h0i : (0 : Int) < (fs.length : Int) := by omega
 go_enter Tryz.func18, Tryz.ntmps18
 go_wp2_with fail
 rw [HW0.out]
 refine (qoM HV _ _ _ _ W0 HX.out HT.out).mono ?_
 rintro e w1 ⟨rfl, hb1⟩
 clear p0 p1 p2 p3 p4 p5 pf
 obtain ⟨p0, p1, p2, p3, p4, p5, pf⟩ := qaa ((hb1.block _ lp).trans HP.out)
 obtain ⟨g, HGG⟩ : ∃ g, Hid (w1.heap.size = g) := ⟨_, hI_ rfl⟩
 have hz := O1.zeros (enc := Value.bool) (e := 4) (w := w1) (n := fs.length) false (by unfold maxLen; omega)
 obtain ⟨hz1', -⟩ := hz.setAt (j := 0) (by rw [List.length_replicate]; omega) true
 obtain ⟨⟨u0, e0⟩, f0⟩ : (∃ u, (w1.alloc (.cells (madeCells #[Value.bool false] fs.length) 4)).cell? ⟨w1.heap.size, 0, none⟩ = some u) ∧ (w1.alloc (.cells (madeCells #[Value.bool false] fs.length) 4)).frozen? ⟨w1.heap.size, 0, none⟩ = false := by have := hz.at_ (j := 0) (by rw [List.length_replicate]; omega); exact ⟨⟨_, this.1⟩, this.2⟩
 obtain ⟨W2, HW2'⟩ : ∃ W, Hid (w1.alloc (.cells ((madeCells #[Value.bool false] fs.length).setIfInBounds 0 (.bool true)) 4) = W) := ⟨_, hI_ rfl⟩
 have HW2 : Hid ((w1.alloc (.cells (madeCells #[Value.bool false] fs.length) 4)).setCell ⟨w1.heap.size, 0, none⟩ (.bool true) = W2) := hI_ (by rw [← HW2'.out]; exact World.setCell_alloc_new _ _ _ _)
 have hb2 : Below W0.heap.size W0 W2 := by rw [← HW2.out]; exact (hb1.alloc hb1.size _).setCell (p := ⟨w1.heap.size, 0, none⟩) hb1.size _
 have ho2 : O1 Value.bool W0.heap.size 4 W2 (.slice (some ⟨g, 0, none⟩) fs.length fs.length) (qoJ b ls fs.length 0) := by
  rw [← HW2.out, ← HGG.out]; exact hz1'.mono hb1.size
 have HO2 := hI_ ho2
 have HB2 := hI_ hb2
 have lw1 := nL_ lp hb1.size
 have hb1' := hI_ hb1
 clear hz hz1' hb2 ho2 hb1
 go_wp2_with fail
 rw [HW2'.out, HGG.out]
 clear hmk p0 p1 p2 p3 p4 p5 pf e0 f0
 obtain ⟨p0, p1, p2, p3, p4, p5, pf⟩ := qaa ((HB2.out.block _ lp).trans HP.out)
 go_wp2_with fail
 go_loopw [21] (fun i wr => ∃ k : Nat, k ≤ fs.length ∧ i = .int .i64 k ∧ O1 Value.bool W0.heap.size 4 wr (.slice (some ⟨g, 0, none⟩) fs.length fs.length) (qoJ b ls fs.length k) ∧ Below W0.heap.size W0 wr) (fun i _ => fs.length - (intOf i).toNat)
 case atStart => exact ⟨0, Nat.zero_le _, rfl, HO2.out, HB2.out⟩
 case round =>
  obtain ⟨k, hk, rfl, ho, hbw⟩ := hrel
  have HOK := hI_ ho
  have HBK := hI_ hbw
  have lpr := nL_ lp hbw.size
  clear p0 p1 p2 p3 p4 p5 pf
  obtain ⟨p0, p1, p2, p3, p4, p5, pf⟩ := qaa ((hbw.block _ lp).trans HP.out)
  clear ho hbw
  by_cases hltk : k < fs.length
  case neg =>
   obtain rfl : k = fs.length := by omega
   have hb9 := HB0.out.trans (HBK.out.mono HB0.out.size)
   have ho9 := HOK.out.mono HB0.out.size
   obtain ⟨st, HST⟩ : ∃ st, Hid (qoJ b ls fs.length fs.length = st) := ⟨_, hI_ rfl⟩
   rw [HST.out] at ho9
   have hsl : st.length = fs.length := by rw [← HST.out]; exact qoO _
   have HSL := hI_ hsl
   have HO9 := hI_ ho9
   have HB9 := hI_ hb9
   clear ho9 hb9 hsl
   have hI9 := O1.made (Value.int .i64) wr 3
   have HI9 := hI_ (hI9.mono HB9.out.size)
   have HA9 := hI_ (HO9.out.alloc (.cells #[] 3))
   have HC9 := hI_ (HB9.out.alloc HB9.out.size (.cells #[] 3))
   clear hI9
   go_wp2_with fail
   go_loopw [6, 67] (fun t i wz => ∃ m : Nat, m ≤ fs.length ∧ i = .int .i64 m ∧ O1 (Value.int .i64) w.heap.size 3 wz t (qoL st m) ∧ O1 Value.bool w.heap.size 4 wz (.slice (some ⟨g, 0, none⟩) fs.length fs.length) st ∧ Below w.heap.size w wz) (fun _ i _ => fs.length - (intOf i).toNat)
   case atStart => exact ⟨0, Nat.zero_le _, rfl, HI9.out, HA9.out, HC9.out⟩
   case round =>
    obtain ⟨m, hm9, rfl, ho, hr, hbz⟩ := hrel
    clear p0 p1 p2 p3 p4 p5 pf
    by_cases hlt : m < fs.length
    case neg =>
     obtain rfl : m = fs.length := by omega
     have HOZ := hI_ ho
     have HBZ := hI_ hbz
     clear ho hr hbz
     go_wp2_with fail
     go_ret
     exact ⟨_, rfl, by rw [HWR.out, ← HNN.out, HST.out]; exact HOZ.out, HBZ.out⟩
    have hms : m < st.length := by rw [HSL.out]; exact hlt
    have e := (hr.at_ hms).1
    have hmi : (m : Int) < (fs.length : Int) := by omega
    have hm0 : (0 : Int) ≤ (m : Int) := by omega
    have lgz := (hr.lt g rfl).2
    cases hsm : st[m]
    · rw [hsm] at e
      have HPK := hI_ (qpo (st := st) (m := m) (by rw [qam hms]; exact hsm))
      have HOZ := hI_ ho
      have HRZ := hI_ hr
      have HBZ := hI_ hbz
      clear ho hr hbz hsm
      go_wp2_with fail
      go_roundw
      case rel => exact ⟨m + 1, by omega, by go_num, by rw [HPK.out]; exact HOZ.out, HRZ.out, HBZ.out⟩
      case measure => simp [intOf]; omega
    · rw [hsm] at e
      have HPK := hI_ (qpj (st := st) (m := m) (by rw [qam hms]; exact hsm))
      have hpl : (qoL st m).length ≤ 100000000000 := by have := qpi st m; omega
      have HPL := hI_ hpl
      have HRZ := hI_ hr
      have HBZ := hI_ hbz
      have HOZ := hI_ ho
      clear hr hbz hsm hpl
      go_wp2_with (at_builtin; refine qpm ho HPL.out HBZ.out.size rfl rfl rfl rfl ?_; intro v3 w3 ho3 hg3)
      go_roundw
      case rel => exact ⟨m + 1, by omega, by go_num, by rw [HPK.out]; exact ho3, HRZ.out.grown hg3 (O1.ne_ HRZ.out HOZ.out (by decide)), HBZ.out.grown hg3 HBZ.out.size (fun k hk => (HOZ.out.lt k hk).1)⟩
      case measure => simp [intOf]; omega
  have hkk : (k : Int) < (fs.length : Int) := by omega
  go_wp2_with fail
  go_loopw [26] (fun i wq => ∃ j : Nat, j ≤ ls.length ∧ i = .int .i64 j ∧ O1 Value.bool W0.heap.size 4 wq (.slice (some ⟨g, 0, none⟩) fs.length fs.length) (qoN b ls (qoJ b ls fs.length k) j) ∧ Below W0.heap.size W0 wq) (fun i _ => ls.length - (intOf i).toNat)
  case atStart => exact ⟨0, Nat.zero_le _, rfl, HOK.out, HBK.out⟩
  case round =>
   obtain ⟨j, hj, rfl, ho, hbq⟩ := hrel
   clear p0 p1 p2 p3 p4 p5 pf lpr
   obtain ⟨p0, p1, p2, p3, p4, p5, pf⟩ := qaa ((hbq.block _ lp).trans HP.out)
   have lpr := nL_ lp hbq.size
   by_cases hlt : j < ls.length
   case neg =>
    obtain rfl : j = ls.length := by omega
    have HOQ := hI_ ho
    have HBQ := hI_ hbq
    clear ho hbq
    go_wp2_with fail
    go_roundw
    case rel => exact ⟨k + 1, by omega, by go_num, HOQ.out, HBQ.out⟩
    case measure => simp [intOf]; omega
   obtain ⟨_, o, hAe, hbs, e0, e1⟩ := (HX.out.links.below hbq).at_ hlt
   cases hAe
   obtain ⟨k1, k2, k3, k4⟩ := HLK.out j hlt
   have HSN := hI_ (qoR (bad := b) (st := qoJ b ls fs.length k) hlt)
   obtain ⟨st, HST⟩ : ∃ st, Hid (qoN b ls (qoJ b ls fs.length k) j = st) := ⟨_, hI_ rfl⟩
   have hsl : st.length = fs.length := by rw [← HST.out, qoT]; exact qoO _
   rw [HST.out] at ho HSN
   generalize ls[j] = y at *
   obtain ⟨y1, y2⟩ := y
   simp only at k1 k2 k3 k4 e0 e1
   obtain ⟨a, rfl⟩ : ∃ a : Nat, y1 = (a : Int) := ⟨y1.toNat, by omega⟩
   obtain ⟨d, rfl⟩ : ∃ d : Nat, y2 = (d : Int) := ⟨y2.toNat, by omega⟩
   have ha : a < st.length := by omega
   have hd : d < st.length := by omega
   have hji : (j : Int) < (ls.length : Int) := by omega
   have hj0 : (0 : Int) ≤ (j : Int) := by omega
   obtain ⟨W5, HW5⟩ : ∃ W, Hid (wr.alloc (.cells #[.int .i64 (a : Int), .int .i64 (d : Int)] 52) = W) := ⟨_, hI_ rfl⟩
   obtain ⟨r, HRR⟩ : ∃ r, Hid (wr.heap.size = r) := ⟨_, hI_ rfl⟩
   have hb5 : Below W0.heap.size W0 W5 := by rw [← HW5.out]; exact hbq.alloc hbq.size _
   have ho5 : O1 Value.bool W0.heap.size 4 W5 (.slice (some ⟨g, 0, none⟩) fs.length fs.length) st := by rw [← HW5.out]; exact ho.alloc _
   have hbx : W5.heap[r]? = some (.cells #[.int .i64 (a : Int), .int .i64 (d : Int)] 52 (0, 0)) := by rw [← HW5.out, ← HRR.out]; exact heap_alloc_new wr _
   have lgr := (ho.lt g rfl).2
   have hgr : r ≠ g := by rw [← HRR.out]; omega
   have r0 : W5.cell? ⟨r, 0, none⟩ = some (.int .i64 (a : Int)) := cell_of_row _ _ 0 _ _ _ hbx
   have r1 : W5.cell? ⟨r, 1, none⟩ = some (.int .i64 (d : Int)) := cell_of_row _ _ 1 _ _ _ hbx
   obtain ⟨c0, f0⟩ := ho5.at_ ha
   obtain ⟨c1, f1⟩ := ho5.at_ hd
   have hlpg : w.heap.size ≠ g := by have := (ho.lt g rfl).1; omega
   have HOW := hI_ ho5
   have HBW := hI_ hb5
   obtain ⟨t0, t1, t2, t3, t4, t5, tf⟩ := qaa ((hb5.block _ lp).trans HP.out)
   have HRW : Hid (wr.heap.size = r) := HRR
   clear ho5 hb5 hbx ho hbq
   rw [← HW5.out] at r0 r1 c0 c1 f0 f1 t1 t3
   have hr := HRR.out
   cases h1 : st[a]
   · rw [h1] at c0
     have h1' := hI_ h1
     clear h1
     cases h2 : st[d]'hd
     · rw [h2] at c1
       have h2' := hI_ h2
       clear h2
       go_wp2_with fail
       go_roundw
       case rel =>
        rw [HW5.out]
        exact ⟨j + 1, by omega, by go_num, by rw [HSN.out, show qoI b st ((a : Int), (d : Int)) = st from by unfold qoI; simp only [Int.toNat_natCast]; rw [qam ha, h1'.out]; simp only [Bool.false_and, Bool.false_eq_true, if_false]; rw [qam hd, h2'.out]; rfl]; exact HOW.out, HBW.out⟩
       case measure => simp [intOf]; omega
     · rw [h2] at c1
       have h2' := hI_ h2
       clear h2
       by_cases h3 : (d : Int) = b
       · have h3' : ((d : Int) != b) = false := by simp [h3]
         have h4' := hI_ h3'
         clear h3
         go_wp2_with fail
         go_roundw
         case rel =>
          rw [HW5.out]
          exact ⟨j + 1, by omega, by go_num, by rw [HSN.out, show qoI b st ((a : Int), (d : Int)) = st from by unfold qoI; simp only [Int.toNat_natCast]; rw [qam ha, h1'.out]; simp only [Bool.false_and, Bool.false_eq_true, if_false]; rw [qam hd, h2'.out, h4'.out]; rfl]; exact HOW.out, HBW.out⟩
         case measure => simp [intOf]; omega
       · have h3' : ((d : Int) != b) = true := by simp [h3]
         have h4' := hI_ h3'
         clear h3
         go_wp2_with fail
         go_roundw
         case rel =>
          rw [HW5.out]
          exact ⟨j + 1, by omega, by go_num, by rw [HSN.out, show qoI b st ((a : Int), (d : Int)) = st.set a true from by unfold qoI; simp only [Int.toNat_natCast]; rw [qam ha, h1'.out]; simp only [Bool.false_and, Bool.false_eq_true, if_false]; rw [qam hd, h2'.out, h4'.out]; rfl]; exact ((HOW.out).setAt (j := a) ha true).1, (HBW.out).setCell (p := ⟨g, a, none⟩) (HOW.out.lt g rfl).1 _⟩
         case measure => simp [intOf]; omega
   · rw [h1] at c0
     have h1' := hI_ h1
     clear h1
     by_cases h5 : (a : Int) = b
     · have h5' : ((a : Int) != b) = false := by simp [h5]
       have h6' := hI_ h5'
       clear h5
       cases h2 : st[d]'hd
       · rw [h2] at c1
         have h2' := hI_ h2
         clear h2
         go_wp2_with fail
         go_roundw
         case rel =>
          rw [HW5.out]
          exact ⟨j + 1, by omega, by go_num, by rw [HSN.out, show qoI b st ((a : Int), (d : Int)) = st from by unfold qoI; simp only [Int.toNat_natCast]; rw [qam ha, h1'.out, h6'.out]; simp only [Bool.and_false, Bool.false_eq_true, if_false]; rw [qam hd, h2'.out]; rfl]; exact HOW.out, HBW.out⟩
         case measure => simp [intOf]; omega
       · rw [h2] at c1
         have h2' := hI_ h2
         clear h2
         by_cases h3 : (d : Int) = b
         · have h3' : ((d : Int) != b) = false := by simp [h3]
           have h4' := hI_ h3'
           clear h3
           go_wp2_with fail
           go_roundw
           case rel =>
            rw [HW5.out]
            exact ⟨j + 1, by omega, by go_num, by rw [HSN.out, show qoI b st ((a : Int), (d : Int)) = st from by unfold qoI; simp only [Int.toNat_natCast]; rw [qam ha, h1'.out, h6'.out]; simp only [Bool.and_false, Bool.false_eq_true, if_false]; rw [qam hd, h2'.out, h4'.out]; rfl]; exact HOW.out, HBW.out⟩
           case measure => simp [intOf]; omega
         · have h3' : ((d : Int) != b) = true := by simp [h3]
           have h4' := hI_ h3'
           clear h3
           go_wp2_with fail
           go_roundw
           case rel =>
            rw [HW5.out]
            exact ⟨j + 1, by omega, by go_num, by rw [HSN.out, show qoI b st ((a : Int), (d : Int)) = st.set a true from by unfold qoI; simp only [Int.toNat_natCast]; rw [qam ha, h1'.out, h6'.out]; simp only [Bool.and_false, Bool.false_eq_true, if_false]; rw [qam hd, h2'.out, h4'.out]; rfl]; exact ((HOW.out).setAt (j := a) ha true).1, (HBW.out).setCell (p := ⟨g, a, none⟩) (HOW.out.lt g rfl).1 _⟩
           case measure => simp [intOf]; omega
     · have h5' : ((a : Int) != b) = true := by simp [h5]
       have h6' := hI_ h5'
       clear h5
       obtain ⟨hs6, -⟩ := HOW.out.setAt hd true
       have g1 := (hs6.at_ (j := d) (by rw [List.length_set]; exact hd))
       rw [List.getElem_set_self] at g1
       obtain ⟨g2, g3⟩ := hs6.at_ (j := a) (by rw [List.length_set]; exact ha)
       have b6 := (HBW.out).setCell (p := ⟨g, d, none⟩) (HOW.out.lt g rfl).1 (.bool true)
       obtain ⟨s0, s1, s2, s3, s4, s5, sf⟩ := qaa ((b6.block _ lp).trans HP.out)
       have z0 := (qpg (w := W5) (m := d) (o := 0) (u := .bool true) hgr).trans (show W5.cell? ⟨r, 0, none⟩ = some (.int .i64 (a : Int)) by have h := r0; rw [HW5.out] at h; exact h)
       have z1 := (qpg (w := W5) (m := d) (o := 1) (u := .bool true) hgr).trans (show W5.cell? ⟨r, 1, none⟩ = some (.int .i64 (d : Int)) by have h := r1; rw [HW5.out] at h; exact h)
       obtain ⟨g1a, g1b⟩ := g1
       rw [← HW5.out] at g1a g1b g2 g3 s1 z0 z1
       have HS6 := hI_ hs6
       have HB6 := hI_ b6
       clear hs6 b6 s0 s2 s3 s4 s5 sf
       by_cases h3 : (d : Int) = b
       · have h3' : ((d : Int) != b) = false := by simp [h3]
         have h4' := hI_ h3'
         clear h3
         go_wp2_with fail
         go_roundw
         case rel =>
          rw [HW5.out]
          exact ⟨j + 1, by omega, by go_num, by rw [HSN.out, show qoI b st ((a : Int), (d : Int)) = st.set d true from by unfold qoI; simp only [Int.toNat_natCast]; rw [qam ha, h1'.out, h6'.out]; simp only [Bool.and_self, if_true]; rw [qam (by rw [List.length_set]; exact hd), List.getElem_set_self, h4'.out]; rfl]; exact HS6.out, HB6.out⟩
         case measure => simp [intOf]; omega
       · have h3' : ((d : Int) != b) = true := by simp [h3]
         have h4' := hI_ h3'
         clear h3
         go_wp2_with fail
         go_roundw
         case rel =>
          rw [HW5.out]
          exact ⟨j + 1, by omega, by go_num, by rw [HSN.out, show qoI b st ((a : Int), (d : Int)) = (st.set d true).set a true from by unfold qoI; simp only [Int.toNat_natCast]; rw [qam ha, h1'.out, h6'.out]; simp only [Bool.and_self, if_true]; rw [qam (by rw [List.length_set]; exact hd), List.getElem_set_self, h4'.out]; rfl]; exact (HS6.out.setAt (j := a) (by rw [List.length_set]; exact ha) true).1, HB6.out.setCell (p := ⟨g, a, none⟩) (HOW.out.lt g rfl).1 _⟩
         case measure => simp [intOf]; omega
end Go.Proofs.YtcplnfmcefkehaaGreat

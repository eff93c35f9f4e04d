/- The row's last step: a World among the arguments, opened to what the walks take. No condition. -/
import Derived.Test.YtcplnfmcefkehaaGreatBR
import Derived.Test.YtcplnfmcefkehaaGreatBQ
set_option linter.unusedVariables false
set_option linter.unusedSimpArgs false
namespace Go.Proofs.YtcplnfmcefkehaaGreat
open Go.RowKit Go.ChangeShapes Go.WideShapes Go.Deep

section
variable {H : Type} {enc : TypeId × Value → H} {P : Program} {w : World} {base : Nat} {held : Bool}
theorem qpZ {α : Type} [Inhabited α] {N : Nat} (hN : 0 < N) {Q : List Value → α → Prop} {t e : TypeId} {fuel : Nat} {v : Value} {x : DataW H × List MemPlace} (ht : P.underlying t = some (.slice e)) (hc : P.cellsOf e = N)
 (hd : ∀ n cs y, cs.length = N → DataW.trod enc P w base (fun _ => true) held n e cs = some y → ∃ z, Q cs z) (h : DataW.trod enc P w base (fun _ => true) held fuel t [v] = some x) :
 ∃ (l : List α) (F : Nat → Value), RN N w v l.length F ∧ ∀ j (hj : j < l.length), Q ((List.range N).map fun i => F (j * N + i)) l[j] := by
 rcases open_slice ht h with ⟨h1, _⟩ | ⟨a, len, cap, m, n, D, Pl, h1, _, hl, hm, hmm, _, hx⟩
 · obtain rfl : v = .slice none 0 0 := by simpa using h1
   exact ⟨[], fun _ => .slice none 0 0, RN.nil w, fun j hj => by simp at hj⟩
 · obtain rfl : v = .slice (some a) len cap := by simpa using h1
   have hm2 : m = cap := by simpa using hmm
   subst hm2
   rw [hc] at hx
   obtain ⟨C, hC⟩ := choose_lt (n := m) (p := fun i (cs : List Value) => w.cells? base (a.add (i * N)) N = some cs ∧ DataW.trod enc P w base (fun _ => true) held n e cs = some (D i, Pl i)) hx
   obtain ⟨Z, hZ⟩ := choose_lt (n := m) (p := fun i (z : α) => Q (C i) z) (fun i hi => hd _ _ _ (World.cells?_some (hC i hi).1).2.1 (hC i hi).2)
   refine ⟨(List.range len).map Z, fun t => ((C (t / N))[t % N]?).getD (.slice none 0 0), ?_, ?_⟩
   · refine ⟨some a, m, by simp, ⟨by simpa using hl, fun h => by simp at h⟩, hm, fun h0 => ?_⟩
     have h0' : 0 < len := by simpa using h0
     have hrd : ∀ i, i < len → ∀ k, k < N → w.cell? ((a.add (i * N)).add k) = (C i)[k]? := fun i hi k hk => (World.cells?_some (hC i (by omega)).1).2.2 k (by omega)
     obtain ⟨b, o, s⟩ := a
     have hc0 := hrd 0 h0' 0 hN
     have hl0 := (World.cells?_some (hC 0 (by omega)).1).2.1
     rw [List.getElem?_eq_getElem (by omega)] at hc0
     have hs : s = none := by simpa [Addr.add] using World.cell?_spot hc0
     subst hs
     refine ⟨b, o, rfl, ?_, fun t ht => ?_⟩
     · apply Classical.byContradiction
       intro hge
       have : w.heap[b]? = none := by simp; omega
       simp [Addr.add, World.cell?, this] at hc0
     · have ht' : t < len * N := by simpa using ht
       have hi : t / N < len := Nat.div_lt_of_lt_mul (by rw [Nat.mul_comm]; exact ht')
       have hk : t % N < N := Nat.mod_lt _ hN
       have h2 := hrd (t / N) hi (t % N) hk
       have hll := (World.cells?_some (hC (t / N) (by omega)).1).2.1
       rw [add_plain, add_plain, Nat.add_assoc, Nat.div_add_mod'] at h2
       rw [h2]
       simp only
       rw [List.getElem?_eq_getElem (by omega), Option.getD_some]
   · intro j hj
     have hj' : j < len := by simpa using hj
     have hll := (World.cells?_some (hC j (by omega)).1).2.1
     rw [List.getElem_map, List.getElem_range]
     have he : ((List.range N).map fun i => ((C ((j * N + i) / N))[(j * N + i) % N]?).getD (.slice none 0 0)) = C j := by
      apply List.ext_getElem (by simp [hll])
      intro i h1 h2
      have hi : i < N := by simpa using h1
      rw [List.getElem_map, List.getElem_range]
      rw [show (j * N + i) / N = j by rw [Nat.mul_comm, Nat.mul_add_div hN, Nat.div_eq_of_lt hi, Nat.add_zero], show (j * N + i) % N = i by rw [Nat.mul_comm, Nat.mul_add_mod, Nat.mod_eq_of_lt hi], List.getElem?_eq_getElem h2, Option.getD_some]
     rw [he]
     exact hZ j (by omega)
theorem RN.r2 {l : List (Int × Int)} {v : Value} {F : Nat → Value} (h : RN 2 w v l.length F) (hF : ∀ j (hj : j < l.length), F (j * 2) = .int .i64 l[j].1 ∧ F (j * 2 + 1) = .int .i64 l[j].2) : RP w v l := by
 obtain ⟨A, c, hv, q1, q2, q3⟩ := h
 refine ⟨A, c, hv, q1, q2, fun hl => ?_⟩
 obtain ⟨b, o, hA, hb, hc⟩ := q3 hl
 refine ⟨b, o, hA, hb, fun j hj => ⟨?_, ?_⟩⟩
 · rw [hc _ (by omega), (hF j hj).1]
 · rw [Nat.add_assoc, hc _ (by omega), (hF j hj).2]
end
instance : Inhabited Fd := ⟨Fd.none⟩
instance : Inhabited Pc := ⟨Pc.none⟩
section
variable {H : Type} {enc : TypeId × Value → H} {w : World} {base : Nat} {held : Bool}
theorem C1 : Tryz.prog.cellsOf 3 = 1 := by kernel_rfl
theorem C3 : Tryz.prog.cellsOf 99 = 3 := by kernel_rfl
theorem CS : Tryz.prog.cellsOf 56 = 1 := by kernel_rfl
theorem CB : Tryz.prog.cellsOf 57 = 1 := by kernel_rfl
theorem CI : Tryz.prog.cellsOf 39 = 1 := by kernel_rfl
theorem CT : Tryz.prog.cellsOf 9 = 1 := by kernel_rfl
theorem C6 : Tryz.prog.cellsOf 101 = 6 := by kernel_rfl
theorem CA : Tryz.prog.cellsOf 160 = 2 := by kernel_rfl
theorem CL : Tryz.prog.cellsOf 124 = 2 := by kernel_rfl
theorem CAS : Tryz.prog.cellsOf 103 = 1 := by kernel_rfl
theorem CP : Tryz.prog.cellsOf 105 = 6 := by kernel_rfl
theorem CW : Tryz.prog.cellsOf 27 = 6 := by kernel_rfl
theorem CFS : Tryz.prog.cellsOf 22 = 1 := by kernel_rfl
theorem CLS : Tryz.prog.cellsOf 23 = 1 := by kernel_rfl
theorem qrC : Tryz.prog.cellsOf 24 = 1 := by kernel_rfl
theorem CPS : Tryz.prog.cellsOf 25 = 1 := by kernel_rfl
def qrz (w : World) (cs : List Value) (f : Fd) : Prop := ∃ x y, cs = [.int .i64 f.pub, .int .i64 f.hd.len, .int .i64 f.hd.dg, .int .i64 f.hd.sg, x, y] ∧ qaU w f x y ∧ ∀ s ∈ f.bl, s.size ≤ maxLen
set_option maxRecDepth 100000 in
theorem qqS (n : Nat) (cs : List Value) (y : DataW H × List MemPlace) (hl : cs.length = 6) (h : DataW.trod enc Tryz.prog w base (fun _ => true) held n 101 cs = some y) : ∃ f, qrz w cs f := by
 obtain ⟨n, hf⟩ := qpx Tryz.underlying101 h
 match cs, hl with
 | [c0, c1, c2, c3, c4, c5], _ =>
   obtain ⟨y0, h0⟩ := hf 0 _ rfl
   obtain ⟨y1, h1⟩ := hf 1 _ rfl
   obtain ⟨y2, h2⟩ := hf 2 _ rfl
   obtain ⟨y3, h3⟩ := hf 3 _ rfl
   simp [C1, C3, CS, CB] at h0 h1 h2 h3
   obtain ⟨n0, e0, -, -⟩ := DataW.trod_int Tryz.underlying3 h0
   obtain ⟨m, hm⟩ := qpx Tryz.underlying99 h1
   obtain ⟨z0, k0⟩ := hm 0 _ rfl
   obtain ⟨z1, k1⟩ := hm 1 _ rfl
   obtain ⟨z2, k2⟩ := hm 2 _ rfl
   simp [C1] at k0 k1 k2
   obtain ⟨n1, e1, -, -⟩ := DataW.trod_int Tryz.underlying3 k0
   obtain ⟨n2, e2, -, -⟩ := DataW.trod_int Tryz.underlying3 k1
   obtain ⟨n3, e3, -, -⟩ := DataW.trod_int Tryz.underlying3 k2
   obtain ⟨bl, hb, hbs⟩ := qrw Tryz.underlying56 Tryz.underlying9 (by kernel_rfl) h2
   obtain ⟨hvs, hh⟩ := qru Tryz.underlying57 Tryz.underlying4 (by kernel_rfl) h3
   obtain rfl : c0 = .int .i64 n0 := by simpa using e0
   obtain rfl : c1 = .int .i64 n1 := by simpa using e1
   obtain rfl : c2 = .int .i64 n2 := by simpa using e2
   obtain rfl : c3 = .int .i64 n3 := by simpa using e3
   exact ⟨⟨n0, ⟨n1, n2, n3⟩, bl, hvs⟩, c4, c5, rfl, ⟨hb, hh⟩, hbs⟩
def qri (cs : List Value) (p : Int × Int) : Prop := cs = [.int .i64 p.1, .int .i64 p.2]
set_option maxRecDepth 100000 in
theorem qq8 (n : Nat) (cs : List Value) (y : DataW H × List MemPlace) (hl : cs.length = 2) (h : DataW.trod enc Tryz.prog w base (fun _ => true) held n 160 cs = some y) : ∃ p, qri cs p := by
 obtain ⟨n, hf⟩ := qpx Tryz.underlying160 h
 match cs, hl with
 | [c0, c1], _ =>
   obtain ⟨y0, h0⟩ := hf 0 _ rfl
   obtain ⟨y1, h1⟩ := hf 1 _ rfl
   simp [C1] at h0 h1
   obtain ⟨n0, e0, -, -⟩ := DataW.trod_int Tryz.underlying3 h0
   obtain ⟨n1, e1, -, -⟩ := DataW.trod_int Tryz.underlying3 h1
   obtain rfl : c0 = .int .i64 n0 := by simpa using e0
   obtain rfl : c1 = .int .i64 n1 := by simpa using e1
   exact ⟨(n0, n1), rfl⟩
set_option maxRecDepth 100000 in
theorem qqT (n : Nat) (cs : List Value) (y : DataW H × List MemPlace) (hl : cs.length = 2) (h : DataW.trod enc Tryz.prog w base (fun _ => true) held n 124 cs = some y) : ∃ p, qri cs p := by
 obtain ⟨n, hf⟩ := qpx Tryz.underlying124 h
 match cs, hl with
 | [c0, c1], _ =>
   obtain ⟨y0, h0⟩ := hf 0 _ rfl
   obtain ⟨y1, h1⟩ := hf 1 _ rfl
   simp [C1] at h0 h1
   obtain ⟨n0, e0, -, -⟩ := DataW.trod_int Tryz.underlying3 h0
   obtain ⟨n1, e1, -, -⟩ := DataW.trod_int Tryz.underlying3 h1
   obtain rfl : c0 = .int .i64 n0 := by simpa using e0
   obtain rfl : c1 = .int .i64 n1 := by simpa using e1
   exact ⟨(n0, n1), rfl⟩
theorem qqL {l : List (Int × Int)} {v : Value} {F : Nat → Value} (h : RN 2 w v l.length F) (hQ : ∀ j (hj : j < l.length), qri ((List.range 2).map fun i => F (j * 2 + i)) l[j]) : RP w v l :=
 h.r2 fun j hj => by have := hQ j hj; simpa [qri, List.range_succ] using this
set_option maxRecDepth 100000 in
theorem qqR (n : Nat) (cs : List Value) (y : DataW H × List MemPlace) (hl : cs.length = 1) (h : DataW.trod enc Tryz.prog w base (fun _ => true) held n 103 cs = some y) : ∃ l : List (Int × Int), ∃ x, cs = [x] ∧ RP w x l := by
 match cs, hl with
 | [x], _ =>
   obtain ⟨l, F, h1, h2⟩ := qpZ (N := 2) (by omega) Tryz.underlying103 CA (qq8 (enc := enc) (w := w) (base := base) (held := held)) h
   exact ⟨l, x, rfl, qqL h1 h2⟩
def qry (w : World) (cs : List Value) (p : Pc) : Prop := ∃ x, cs = [.int .i64 p.fr, .int .i64 p.to_, .int .i64 p.len, .int .i64 p.idx, .string p.txt, x] ∧ RI w x p.prf ∧ p.txt.size ≤ maxLen
set_option maxRecDepth 100000 in
theorem qqy (n : Nat) (cs : List Value) (y : DataW H × List MemPlace) (hl : cs.length = 6) (h : DataW.trod enc Tryz.prog w base (fun _ => true) held n 105 cs = some y) : ∃ p, qry w cs p := by
 obtain ⟨n, hf⟩ := qpx Tryz.underlying105 h
 match cs, hl with
 | [c0, c1, c2, c3, c4, c5], _ =>
   obtain ⟨y0, h0⟩ := hf 0 _ rfl
   obtain ⟨y1, h1⟩ := hf 1 _ rfl
   obtain ⟨y2, h2⟩ := hf 2 _ rfl
   obtain ⟨y3, h3⟩ := hf 3 _ rfl
   obtain ⟨y4, h4⟩ := hf 4 _ rfl
   obtain ⟨y5, h5⟩ := hf 5 _ rfl
   simp [C1, CT, CI] at h0 h1 h2 h3 h4 h5
   obtain ⟨n0, e0, -, -⟩ := DataW.trod_int Tryz.underlying3 h0
   obtain ⟨n1, e1, -, -⟩ := DataW.trod_int Tryz.underlying3 h1
   obtain ⟨n2, e2, -, -⟩ := DataW.trod_int Tryz.underlying3 h2
   obtain ⟨n3, e3, -, -⟩ := DataW.trod_int Tryz.underlying3 h3
   obtain ⟨s, e4, -, hs⟩ := DataW.trod_string Tryz.underlying9 h4
   obtain ⟨l, hp, -⟩ := qrv Tryz.underlying39 Tryz.underlying3 (by kernel_rfl) h5
   obtain rfl : c0 = .int .i64 n0 := by simpa using e0
   obtain rfl : c1 = .int .i64 n1 := by simpa using e1
   obtain rfl : c2 = .int .i64 n2 := by simpa using e2
   obtain rfl : c3 = .int .i64 n3 := by simpa using e3
   obtain rfl : c4 = .string s := by simpa using e4
   exact ⟨⟨n0, n1, n2, n3, s, l⟩, c5, rfl, hp, hs⟩
set_option maxRecDepth 100000 in
theorem qqV {r : Reach} {b0 : Nat} {v : Value} {d : DataW H} {p : List MemPlace} (hv : Value.okWide Tryz.prog w r b0 27 v) (h : DataW.Trod enc Tryz.prog w base (fun _ => true) held 27 v d p) :
 ∃ (x : Wd) (vF vL vK vN : Value), v = .agg #[.int .i64 x.sec, .int .i64 x.bad, vF, vL, vK, vN] ∧ WdR w x vF vL vK vN ∧ qrA x := by
 obtain ⟨cs, n, rfl, hl, hf⟩ := qqD Tryz.underlying27 hv h
 rw [CW] at hl
 match cs, hl with
 | [c0, c1, c2, c3, c4, c5], _ =>
   obtain ⟨y0, h0⟩ := hf 0 _ rfl
   obtain ⟨y1, h1⟩ := hf 1 _ rfl
   obtain ⟨y2, h2⟩ := hf 2 _ rfl
   obtain ⟨y3, h3⟩ := hf 3 _ rfl
   obtain ⟨y4, h4⟩ := hf 4 _ rfl
   obtain ⟨y5, h5⟩ := hf 5 _ rfl
   simp [C1, CFS, CLS, qrC, CPS] at h0 h1 h2 h3 h4 h5
   obtain ⟨n0, e0, -, -⟩ := DataW.trod_int Tryz.underlying3 h0
   obtain ⟨n1, e1, -, -⟩ := DataW.trod_int Tryz.underlying3 h1
   obtain rfl : c0 = .int .i64 n0 := by simpa using e0
   obtain rfl : c1 = .int .i64 n1 := by simpa using e1
   obtain ⟨fs, F2, k2, q2⟩ := qpZ (N := 6) (by omega) Tryz.underlying22 C6 (qqS (enc := enc) (w := w) (base := base) (held := held)) h2
   obtain ⟨ls, F3, k3, q3⟩ := qpZ (N := 2) (by omega) Tryz.underlying23 CL (qqT (enc := enc) (w := w) (base := base) (held := held)) h3
   obtain ⟨ks, F4, k4, q4⟩ := qpZ (N := 1) (by omega) Tryz.underlying24 CAS (qqR (enc := enc) (w := w) (base := base) (held := held)) h4
   obtain ⟨ps, F5, k5, q5⟩ := qpZ (N := 6) (by omega) Tryz.underlying25 CP (qqy (enc := enc) (w := w) (base := base) (held := held)) h5
   refine ⟨⟨n0, n1, fs, ls, ks, ps⟩, c2, c3, c4, c5, rfl, ⟨⟨F2, k2, fun j hj => ?_⟩, qqL k3 q3, ⟨F4, k4, fun j hj => ?_⟩, ⟨F5, k5, fun j hj => ?_⟩⟩, ⟨fun j hj => ?_, fun j hj => ?_⟩⟩
   · obtain ⟨x, y, he, hr, _⟩ := q2 j hj
     simp [List.range_succ] at he
     obtain ⟨g0, g1, g2, g3, g4, g5⟩ := he
     rw [g4, g5]
     exact ⟨g0, g1, g2, g3, hr⟩
   · obtain ⟨x, he, hr⟩ := q4 j hj
     simp [List.range_succ] at he
     rw [he]
     exact hr
   · obtain ⟨x, he, hr, _⟩ := q5 j hj
     simp [List.range_succ] at he
     obtain ⟨g0, g1, g2, g3, g4, g5⟩ := he
     rw [g5]
     exact ⟨g0, g1, g2, g3, g4, hr⟩
   · obtain ⟨x, y, he, hr, hs⟩ := q2 j hj
     exact hs
   · obtain ⟨x, he, hr, hs⟩ := q5 j hj
     exact hs
end
end Go.Proofs.YtcplnfmcefkehaaGreat

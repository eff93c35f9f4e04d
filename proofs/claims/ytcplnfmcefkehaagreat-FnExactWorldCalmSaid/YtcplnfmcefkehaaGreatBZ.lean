/- Plain laws: a valid world taken apart; windows and links. No condition. | Plain laws: whom the writer reaches, and why. No condition. | Plain laws: every event keeps a world valid. No condition. | Plain laws: what a quiet period does. No condition. | Plain: new worlds are valid; heads of empty feeds stay empty. Words: a new world in memory. No condition. | Walks: the reference's windows: a request is appended, requests are removed. No condition but small sizes. | Walks: requests and windows are drawn. No condition. -/
import Derived.Test.YtcplnfmcefkehaaGreatZi
import Derived.Test.YtcplnfmcefkehaaGreatBU
set_option linter.unusedVariables false
set_option linter.unusedSimpArgs false
namespace Go.Proofs.YtcplnfmcefkehaaGreat

structure qgA (sec : Int) (f0 f : Fd) : Prop where
 v : qaq f = true
 pub : f.pub = qhr sec
 le : f.hd.len ≤ f0.hd.len
 hd : f.hd.len = 0 ∨ f.hd = (qbJ sec ((lvs f0.bl).take f.hd.len.toNat)).1
 bl : ∀ i, i < f.bl.length → f.hv.getD i false = true → qbi (f.bl.getD i ⟨#[]⟩).data.toList = qbi (f0.bl.getD i ⟨#[]⟩).data.toList
theorem qmI {a b : Hd} : qlJ a b = true ↔ a = b := by
 cases a; cases b; simp [qlJ, and_assoc]
theorem qgG {sec : Int} {f0 f : Fd} : qcy sec f0 f = true ↔ qgA sec f0 f := by
 unfold qcy
 simp only [Bool.and_eq_true, Bool.or_eq_true, beq_iff_eq, decide_eq_true_eq, qcS, qmI]
 constructor
 · rintro ⟨⟨⟨⟨h1, h2⟩, h3⟩, h4⟩, h5⟩
   refine ⟨h1, h2, h3, h4, fun i hi hh => ?_⟩
   have := h5 i hi
   unfold qb8 at this
   rw [hh] at this
   simpa using this
 · rintro ⟨h1, h2, h3, h4, h5⟩
   refine ⟨⟨⟨⟨h1, h2⟩, h3⟩, h4⟩, fun i hi => ?_⟩
   unfold qb8
   cases hh : f.hv.getD i false
   · rfl
   · simpa using h5 i hi hh
structure WV (x : Wd) : Prop where
 set : qfb x.sec x.feeds.length x.bad = true
 v0 : qaq x.f0 = true
 wh : qbA x.f0.hv = true
 ln : qcE x.feeds.length x.links = true
 na : x.asked.length = x.feeds.length
 nn : x.net.length ≤ 12
 fd : ∀ j (hj : j < x.feeds.length), qgA x.sec x.f0 x.feeds[j]
 wd : ∀ j (hj : j < x.asked.length), qaG x.asked[j] = true
 pc : ∀ j (hj : j < x.net.length), qaX x.feeds.length x.f0 x.net[j] = true
theorem qcq {x : Wd} : qcc x = true ↔ WV x := by
 unfold qcc
 simp only [Bool.and_eq_true, beq_iff_eq, decide_eq_true_eq, qcS]
 constructor
 · rintro ⟨⟨⟨⟨⟨⟨⟨h1, h2⟩, h3⟩, h4⟩, h5⟩, h6⟩, h7⟩, h8⟩
   refine ⟨h1, h2, h3, h4, h5, h6, fun j hj => ?_, fun j hj => ?_, fun j hj => ?_⟩
   · have := h7 j hj
     unfold qdf at this
     rw [Bool.and_eq_true, qam hj] at this
     exact qgG.1 this.1
   · have := h7 j (by omega)
     unfold qdf at this
     rw [Bool.and_eq_true, qam hj] at this
     exact this.2
   · have := h8 j hj
     unfold qew at this
     rwa [qam hj] at this
 · rintro ⟨h1, h2, h3, h4, h5, h6, h7, h8, h9⟩
   refine ⟨⟨⟨⟨⟨⟨⟨h1, h2⟩, h3⟩, h4⟩, h5⟩, h6⟩, fun j hj => ?_⟩, fun j hj => ?_⟩
   · unfold qdf; rw [Bool.and_eq_true, qam hj, qam (by omega)]; exact ⟨qgG.2 (h7 j hj), h8 j (by omega)⟩
   · unfold qew; rw [qam hj]; exact h9 j hj
theorem qd6 {l : List (Int × Int)} {a : Int × Int} : qc8 l a = true ↔ a ∈ l := by
 refine ⟨qjU, fun h => ?_⟩
 unfold qc8
 exact List.any_eq_true.2 ⟨a, h, by simp⟩
structure qen (l : List (Int × Int)) : Prop where
 ok : ∀ a ∈ l, qcB a = true
 nd : l.Nodup
 p : ∀ a ∈ l, qcX l a.1 ≤ 3
 b : ∀ a ∈ l, qdL l a.2 ≤ 2
theorem qbt {l : List (Int × Int)} : qaG l = true ↔ qen l := by
 unfold qaG
 rw [qcS]
 constructor
 · intro h
   have h' : ∀ j (hj : j < l.length), qcB l[j] = true ∧ qc8 (l.take j) l[j] = false ∧ qcX l l[j].1 ≤ 3 ∧ qdL l l[j].2 ≤ 2 := fun j hj => by
    have := h j hj
    unfold qh1 at this
    rw [qam hj] at this
    simp only [Bool.and_eq_true, Bool.not_eq_true', decide_eq_true_eq] at this
    exact ⟨this.1.1.1, this.1.1.2, this.1.2, this.2⟩
   refine ⟨fun a ha => ?_, ?_, fun a ha => ?_, fun a ha => ?_⟩
   · obtain ⟨j, hj, rfl⟩ := List.mem_iff_getElem.1 ha; exact (h' j hj).1
   · refine List.pairwise_iff_getElem.2 fun i j hi hj hij he => ?_
     have h2 := (h' j hj).2.1
     have : qc8 (l.take j) l[j] = true := qd6.2 (by rw [← he]; exact List.mem_take_iff_getElem.2 ⟨i, by omega, rfl⟩)
     rw [h2] at this; cases this
   · obtain ⟨j, hj, rfl⟩ := List.mem_iff_getElem.1 ha; exact (h' j hj).2.2.1
   · obtain ⟨j, hj, rfl⟩ := List.mem_iff_getElem.1 ha; exact (h' j hj).2.2.2
 · intro h j hj
   unfold qh1
   rw [qam hj]
   simp only [Bool.and_eq_true, Bool.not_eq_true', decide_eq_true_eq]
   have hm := List.getElem_mem hj
   refine ⟨⟨⟨h.ok _ hm, ?_⟩, h.p _ hm⟩, h.b _ hm⟩
   cases hh : qc8 (l.take j) l[j]
   · rfl
   · obtain ⟨i, hi, he⟩ := List.mem_take_iff_getElem.1 (qd6.1 hh)
     exact absurd he (List.pairwise_iff_getElem.1 h.nd i j (by omega) hj (by omega))
theorem qlp {l : List (Int × Int)} {p : Int} (h : ∀ a ∈ l, a.1 ≠ p) : qcX l p = 0 := by
 unfold qcX; rw [List.countP_eq_zero]; intro a ha; simpa using h a ha
theorem qlo (l : List (Int × Int)) (a : Int × Int) (p : Int) : qcX (a :: l) p = qcX l p + if a.1 = p then 1 else 0 := by
 unfold qcX; simp [List.countP_cons]
theorem qmj : ∀ {l : List (Int × Int)}, (∀ a ∈ l, qcB a = true) → l.length = qcX l 0 + qcX l 1 + qcX l 2 + qcX l 3 + qcX l 4 + qcX l 5
 | [], _ => rfl
 | a :: l, h => by
   have ih := qmj (l := l) fun y hy => h y (List.mem_cons_of_mem _ hy)
   have ha := h a List.mem_cons_self
   unfold qcB at ha
   rw [Bool.and_eq_true, qak] at ha
   simp only [List.length_cons, qlo]
   obtain ⟨⟨h1, h2⟩, _⟩ := ha
   have : a.1 = 0 ∨ a.1 = 1 ∨ a.1 = 2 ∨ a.1 = 3 ∨ a.1 = 4 ∨ a.1 = 5 := by omega
   rcases this with e | e | e | e | e | e <;> simp [e] <;> omega
theorem qen.le3 {l : List (Int × Int)} (h : qen l) (p : Int) : qcX l p ≤ 3 := by
 by_cases hp : ∃ a ∈ l, a.1 = p
 · obtain ⟨a, ha, rfl⟩ := hp; exact h.p a ha
 · rw [qlp fun a ha e => hp ⟨a, ha, e⟩]; omega
theorem qen.len {l : List (Int × Int)} (h : qen l) : l.length ≤ 18 := by
 have := qmj h.ok
 have := h.le3 0
 have := h.le3 1
 have := h.le3 2
 have := h.le3 3
 have := h.le3 4
 have := h.le3 5
 omega

theorem qf4 {a b : Int × Int} : ltL a b = true ↔ (a.1 < b.1 ∨ (a.1 = b.1 ∧ a.2 < b.2)) := by unfold ltL; simp
theorem qiB {a b c : Int × Int} (h : ltL a b = true) (h2 : ltL b c = true) : ltL a c = true := by
 rw [qf4] at *; omega
theorem qc6 {n : Nat} {l : List (Int × Int)} : qcE n l = true ↔ (∀ y ∈ l, qc5 n y = true) ∧ l.Pairwise (fun a b => ltL a b = true) := by
 unfold qcE
 rw [qcS]
 constructor
 · intro h
   have h' : ∀ j (hj : j < l.length), qc5 n l[j] = true ∧ ∀ i (hi : i < l.length), i + 1 = j → ltL l[i] l[j] = true := fun j hj => by
    have := h j hj
    unfold qdV at this
    rw [qam hj] at this
    simp only [Bool.and_eq_true, Bool.or_eq_true, beq_iff_eq] at this
    refine ⟨this.1, fun i hi e => ?_⟩
    subst e
    rcases this.2 with h0 | h0
    · omega
    · rwa [Nat.add_sub_cancel, qam hi] at h0
   refine ⟨fun y hy => ?_, List.pairwise_iff_getElem.2 fun i j hi hj hij => ?_⟩
   · obtain ⟨j, hj, rfl⟩ := List.mem_iff_getElem.1 hy; exact (h' j hj).1
   · induction j with
     | zero => omega
     | succ j ih =>
       have h1 := (h' (j + 1) hj).2 j (by omega) rfl
       by_cases hij' : i = j
       · subst hij'; exact h1
       · exact qiB (ih (by omega) (by omega)) h1
 · rintro ⟨h1, h2⟩ j hj
   unfold qdV
   rw [qam hj, h1 _ (List.getElem_mem hj), Bool.true_and, Bool.or_eq_true, beq_iff_eq]
   by_cases h0 : j = 0
   · exact .inl h0
   · refine .inr ?_
     rw [qam (by omega)]
     exact List.pairwise_iff_getElem.1 h2 (j - 1) j (by omega) hj (by omega)
theorem qg2 (f : Int × Int → Int) : ∀ {l : List (Int × Int)} (m : Int), m ≤ 36 → (∀ y ∈ l, m ≤ f y ∧ f y ≤ 35) → l.Pairwise (fun a b => f a < f b) → (l.length : Int) ≤ 36 - m
 | [], m, hm, _, _ => by simp; omega
 | a :: l, m, hm, h, hp => by
   have ha := h a List.mem_cons_self
   rw [List.pairwise_cons] at hp
   have := qg2 f (l := l) (f a + 1) (by omega) (fun y hy => ⟨by have := hp.1 y hy; omega, (h y (List.mem_cons_of_mem _ hy)).2⟩) hp.2
   simp only [List.length_cons]
   omega
theorem qlT {n : Nat} {l : List (Int × Int)} (hn : n ≤ 6) (h : qcE n l = true) : l.length ≤ 36 := by
 obtain ⟨h1, h2⟩ := qc6.1 h
 have hb : ∀ y ∈ l, 0 ≤ y.1 ∧ y.1 ≤ 5 ∧ 0 ≤ y.2 ∧ y.2 ≤ 5 := fun y hy => by
  have := h1 y hy
  unfold qc5 at this
  rw [Bool.and_eq_true, qak, qak] at this
  omega
 have := qg2 (fun y => y.1 * 6 + y.2) (l := l) 0 (by omega) (fun y hy => by have := hb y hy; omega) (h2.imp_of_mem (fun {a b} ha hb' hab => by
  have := hb a ha
  have := hb b hb'
  rw [qf4] at hab
  omega))
 omega
theorem qjD (l : List Int) (i : Int) : (qaQ l i).length ≤ 100 := by
 unfold qaQ
 split
 · rename_i h
   rw [Bool.and_eq_true] at h
   have h1 := (qaJ.1 h.1).1
   have h2 := qak.1 h.2
   obtain ⟨p1, p2, p3, _⟩ := qhA l.length (by omega) i.toNat (by omega)
   have ht := qaY 0 l.length
   unfold qcg qgd others
   simp only [List.length_append, List.length_map, List.length_range, List.length_eraseIdx]
   split <;> omega
 · simp
theorem qcF {n : Nat} {f0 : Fd} {p : Pc} : qaX n f0 p = true ↔ inB p.fr 0 ((n : Int) - 1) = true ∧ inB p.to_ 0 ((n : Int) - 1) = true ∧ inB p.len 1 f0.hd.len = true ∧ inB p.idx 0 (p.len - 1) = true ∧ p.txt.size ≤ 8 ∧ p.prf = qaQ ((lvs f0.bl).take p.len.toNat) p.idx := by
 unfold qaX
 simp only [Bool.and_eq_true, decide_eq_true_eq, beq_iff_eq, and_assoc]
theorem WV.wi {x : Wd} (h : WV x) : WI 40 x := by
 obtain ⟨s1, s2, s3, s4, s5⟩ := qb5 h.set
 have hf := h.fd 0 (by omega)
 have h0 : x.f0 = x.feeds[0]'(by omega) := qam (by omega) _
 refine ⟨s1, s2, s3, h.na, by rw [h0]; exact hf.pub, h.wh, fun j hj => ⟨(h.fd j hj).v, (h.fd j hj).le⟩, fun j hj => (qc6.1 h.ln).1 _ (List.getElem_mem hj), fun j hj => Nat.le_trans (qbt.1 (h.wd j hj)).len (by omega), Nat.le_trans (qlT s3 h.ln) (by omega), h.nn, fun j hj => ?_⟩
 obtain ⟨p1, p2, p3, p4, p5, p6⟩ := qcF.1 (h.pc j hj)
 exact ⟨p1, p2, p5, by rw [p6]; exact qjD _ _⟩
def leB (a b : List Bool) : Prop := ∀ i, a.getD i false = true → b.getD i false = true
theorem leB.trans {a b c : List Bool} (h : leB a b) (h2 : leB b c) : leB a c := fun i hi => h2 i (h i hi)
theorem qlC {a : List Bool} {i j : Nat} : (a.set j true).getD i false = (a.getD i false || (decide (i = j) && decide (j < a.length))) := by
 rw [List.getD_eq_getElem?_getD, List.getD_eq_getElem?_getD, List.getElem?_set]
 by_cases h : j = i
 · subst h
   by_cases h2 : j < a.length
   · simp [h2]
   · simp [h2]
 · have : i ≠ j := fun e => h e.symm
   simp [h, this]
section
variable {x : Wd}
end
theorem qg0 {a a' b : Int} (h1 : dig a = true) (h2 : dig a' = true) (h : qbo a b = qbo a' b) : a = a' := by
 rw [qa4] at h1 h2; unfold qbo at h; omega
theorem qg1 {a b b' : Int} (h1 : dig b = true) (h2 : dig b' = true) (h : qbo a b = qbo a b') : b = b' := by
 rw [qa4] at h1 h2; unfold qbo at h; omega
theorem qiF (i : Nat) : ∀ (xs : List Int) (j : Nat) (r r' : Int), dig r = true → dig r' = true → qb0 i j r xs = qb0 i j r' xs → r = r'
 | [], _, _, _, _, _, h => h
 | x :: xs, j, r, r', h1, h2, h => by
   unfold qb0 at h
   have := qiF i xs (j + 1) _ _ (by split <;> exact qb4 _ _) (by split <;> exact qb4 _ _) h
   split at this
   · exact qg0 h1 h2 this
   · exact qg1 h1 h2 this
theorem qjT : ∀ (l : List Int) {a a' : Int}, dig a = true → dig a' = true → qdI a l = qdI a' l → a = a'
 | [], _, _, _, _, h => h
 | x :: l, a, a', h1, h2, h => qg0 h1 h2 (qjT l (qb4 a x) (qb4 a' x) h)
theorem qlk {dg n i a b : Int} {p : List Int} (ha : qaT dg n i a p = true) (hb : qaT dg n i b p = true) : a = b := by
 unfold qaT at ha hb
 simp only [Bool.and_eq_true] at ha hb
 obtain ⟨⟨⟨⟨_, _⟩, da⟩, _⟩, ca⟩ := ha
 obtain ⟨⟨⟨⟨_, _⟩, db⟩, _⟩, cb⟩ := hb
 unfold qbl at ca cb
 simp only [Bool.and_eq_true, beq_iff_eq] at ca cb
 have h := ca.2.trans cb.2.symm
 have e : ∀ (x : Int) (A B : List Int) (r : Int), qdI x (A ++ [r] ++ B) = qdI (qbo (qdI x A) r) B := fun x A B r => by
  unfold qdI; rw [List.foldl_append, List.foldl_append]; rfl
 rw [e, e] at h
 have h2 := qg1 (qc7 _ _ _ _ da) (qc7 _ _ _ _ db) (qjT _ (qb4 _ _) (qb4 _ _) h)
 exact qiF _ _ _ _ _ da db h2
theorem qfS {s : Int} {l : List Int} (hk : key s = true) (hl : qaE l = true) : (qbJ s l).1.len = l.length ∧ (qbJ s l).1.dg = qbN l := by
 unfold qbJ; rw [hk, hl]; exact ⟨rfl, rfl⟩
theorem qcV {bl : List ByteArray} (h : bl.length ≤ 16) (n : Nat) : qaE ((lvs bl).take n) = true := qaJ.2 ⟨by rw [List.length_take, qcP]; omega, qcb (qlV _) _⟩

section
variable {x : Wd}
theorem WV.f0_ (h : WV x) : x.f0 = x.feeds[0]'(by have := (qb5 h.set).2.1; omega) := qam (by have := (qb5 h.set).2.1; omega) _
theorem WV.key (h : WV x) : key x.sec = true := (qb5 h.set).1
theorem WV.pub (h : WV x) : x.f0.pub = qhr x.sec := h.wi.pub
theorem qly {x : Wd} {j : Nat} {f : Fd} {k : List (List (Int × Int))} (hj : j ≠ 0) : (⟨x.sec, x.bad, x.feeds.set j f, x.links, k, x.net⟩ : Wd).f0 = x.f0 := by
 unfold Wd.f0; rw [List.getD_eq_getElem?_getD, List.getD_eq_getElem?_getD, List.getElem?_set_ne hj]
theorem WV.setF (h : WV x) {j : Nat} {f : Fd} (hj : j ≠ 0) (hf : qgA x.sec x.f0 f) : WV { x with feeds := x.feeds.set j f } := by
 have e0 : ({ x with feeds := x.feeds.set j f } : Wd).f0 = x.f0 := qly hj
 refine ⟨by simpa using h.set, by rw [e0]; exact h.v0, by rw [e0]; exact h.wh, by simpa using h.ln, by simpa using h.na, h.nn, fun i hi => ?_, h.wd, fun i hi => ?_⟩
 · rw [e0]
   simp only [List.length_set] at hi
   by_cases hij : i = j
   · subst hij; simpa using hf
   · simp only [List.getElem_set_ne (Ne.symm hij)]; exact h.fd i hi
 · rw [e0]; simpa using h.pc i hi
theorem qnG {sec : Int} {f0 f g : Fd} {l : List Int} (hg : qgA sec f0 g) (hf : qgA sec f0 f) (h0 : qdJ f g.hd l = 0) : qgA sec f0 (f.grow g.hd) := by
 obtain ⟨c1, c2, c3, _⟩ := qd7 h0
 obtain ⟨k1, k2, k3⟩ := qax hf.v
 refine ⟨qkC hf.v h0, hf.pub, hg.le, hg.hd, fun i hi hh => ?_⟩
 by_cases h1 : i < f.bl.length
 · have e1 : (f.grow g.hd).hv.getD i false = f.hv.getD i false := by
    unfold Fd.grow; simp only; rw [List.getD_eq_getElem?_getD, List.getD_eq_getElem?_getD, List.getElem?_append_left (by omega)]
   have e2 : (f.grow g.hd).bl.getD i ⟨#[]⟩ = f.bl.getD i ⟨#[]⟩ := by
    unfold Fd.grow; simp only; rw [List.getD_eq_getElem?_getD, List.getD_eq_getElem?_getD, List.getElem?_append_left h1]
   rw [e1] at hh
   rw [e2]
   exact hf.bl i h1 hh
 · exfalso
   unfold Fd.grow at hh
   simp only at hh
   rw [List.getD_eq_getElem?_getD, List.getElem?_append_right (by omega), List.getElem?_replicate] at hh
   split at hh <;> simp at hh
theorem WV.fd_ (h : WV x) {a b : Int} (hl : qbk x a b = true) : ∃ i j : Nat, a = i ∧ b = j ∧ ∃ (hi : i < x.feeds.length) (hj : j < x.feeds.length), x.feed a = x.feeds[i] ∧ x.feed b = x.feeds[j] := by
 obtain ⟨i, j, rfl, rfl, hi, hj⟩ := h.wi.lk hl
 exact ⟨i, j, rfl, rfl, hi, hj, h.wi.fd hi, h.wi.fd hj⟩
theorem WV.head (h : WV x) (a b : Int) : WV (qa0 x a b) := by
 unfold qa0
 split
 · rename_i hc
   simp only [Bool.and_eq_true, beq_iff_eq] at hc
   obtain ⟨c1, c2⟩ := hc
   unfold qdj at c1
   simp only [Bool.and_eq_true, decide_eq_true_eq] at c1
   obtain ⟨i, j, rfl, rfl, hi, hj, ea, eb⟩ := h.fd_ c1.1
   have c3 := c1.2
   unfold qet at c2 ⊢
   rw [ea, eb] at c2 c3 ⊢
   rw [Int.toNat_natCast]
   have hv := (h.fd j hj).v
   have h0 : qdJ x.feeds[j] x.feeds[i].hd (qcv ((lvs x.f0.bl).take x.feeds[i].hd.len.toNat) x.feeds[j].hd.len) = 0 := by
    have := c2; unfold qc9 at this; rw [hv] at this; exact this
   rw [qd4 hv h0]
   refine h.setF (fun e => ?_) (qnG (h.fd i hi) (h.fd j hj) h0)
   subst e
   have := (h.fd i hi).le
   rw [h.f0_] at this
   omega
 · exact h
end
def qbW (a b : Int) (x : Wd) (k : Nat) : Wd :=
 if (x.feed a).hv.getD k false && !(x.feed b).hv.getD k false then
  { x with feeds := x.feeds.set b.toNat (qes (x.feed b) k ((x.feed a).bl.getD k ⟨#[]⟩) (qaQ ((lvs x.f0.bl).take (x.feed a).hd.len.toNat) k)).1 }
 else x
def qby (a b : Int) (x : Wd) (n : Nat) : Wd := (List.range n).foldl (qbW a b) x
theorem qdB (a b : Int) (x : Wd) (n : Nat) : qby a b x (n + 1) = qbW a b (qby a b x n) n := by
 unfold qby; rw [List.range_succ, List.foldl_append]; rfl
def qa5 (x : Wd) (a b : Int) : Wd :=
 if a = x.bad then x
 else if ((qa0 x a b).feed a).hd.len = ((qa0 x a b).feed b).hd.len then qby a b (qa0 x a b) ((qa0 x a b).feed a).hd.len.toNat
 else qa0 x a b
def qft (x : Wd) (l : Int × Int) : Wd := qa5 (qa5 x l.1 l.2) l.2 l.1
def qdb (ls : List (Int × Int)) (x : Wd) (k : Nat) : Wd := (ls.take k).foldl qft x
theorem qer {ls : List (Int × Int)} {x : Wd} {k : Nat} (h : k < ls.length) : qdb ls x (k + 1) = qft (qdb ls x k) ls[k] := by
 unfold qdb; rw [qaZ h, List.foldl_append]; rfl
def qdH (ls : List (Int × Int)) (x : Wd) : Nat → Wd
 | 0 => x
 | k + 1 => qdb ls (qdH ls x k) ls.length
def Wd.quiet (x : Wd) : Wd := { x with asked := List.replicate x.asked.length [], net := [] }
def qgl (x : Wd) : Wd := qdH x.links x.quiet x.feeds.length

theorem qmQ {f0 f : Fd} {n : Nat} (hn : f.bl.length = n) (hl : n ≤ f0.bl.length) (h : ∀ i, i < n → qbi (f.bl.getD i ⟨#[]⟩).data.toList = qbi (f0.bl.getD i ⟨#[]⟩).data.toList) : lvs f.bl = (lvs f0.bl).take n := by
 refine List.ext_getElem (by rw [qcP, List.length_take, qcP]; omega) fun i h1 h2 => ?_
 rw [qcP] at h1
 have e := h i (by omega)
 rw [qam (by omega), qam (by omega)] at e
 have e1 : (lvs f.bl)[i]'(by rw [qcP]; omega) = qbi f.bl[i].data.toList := by simp [lvs]
 have e2 : ((lvs f0.bl).take n)[i]'h2 = qbi f0.bl[i].data.toList := by rw [List.getElem_take]; simp [lvs]
 rw [e1, e2]; exact e
theorem qfl : ∀ {bl : List ByteArray} {hv : List Bool}, qaI bl hv = true → ∀ {j : Nat} {s b}, bl[j]? = some s → hv[j]? = some b → qbQ s b = true
 | [], _, _, j, s, b, h1, _ => by simp at h1
 | _ :: _, [], _, j, s, b, _, h2 => by simp at h2
 | t :: bl, c :: hv, h, 0, s, b, h1, h2 => by
   simp only [qaI, Bool.and_eq_true] at h
   simp at h1 h2; subst h1; subst h2; exact h.1
 | t :: bl, c :: hv, h, j + 1, s, b, h1, h2 => by
   simp only [qaI, Bool.and_eq_true] at h
   exact qfl h.2 (j := j) (by simpa using h1) (by simpa using h2)
theorem qmW {sec : Int} {f0 f : Fd} {k : Nat} {t : ByteArray} (h0 : qaq f0 = true) (hk : key sec = true) (hf : qgA sec f0 f) (hkl : k < f.bl.length) (hn : f.hv.getD k false = false) (ht : t.size ≤ 8)
 (htx : qbi t.data.toList = qbi (f0.bl.getD k ⟨#[]⟩).data.toList) :
 qes f k t (qaQ ((lvs f0.bl).take f.hd.len.toNat) k) = (f.put k t, true) ∧ qgA sec f0 (f.put k t) := by
 obtain ⟨l1, l2, l3⟩ := qax h0
 obtain ⟨k1, k2, k3⟩ := qax hf.v
 have hle := hf.le
 have hd : f.hd = (qbJ sec ((lvs f0.bl).take f.hd.len.toNat)).1 := by
  rcases hf.hd with h1 | h1
  · omega
  · exact h1
 obtain ⟨m1, m2⟩ := qfS hk (qcV l2 f.hd.len.toNat)
 have hdg : f.hd.dg = qbN ((lvs f0.bl).take f.hd.len.toNat) := by rw [← m2, ← hd]
 have hlt : k < f0.bl.length := by omega
 have hlen : ((lvs f0.bl).take f.hd.len.toNat).length = f.hd.len.toNat := by rw [List.length_take, qcP]; omega
 have hg : ((lvs f0.bl).take f.hd.len.toNat).getD k 0 = qbi (f0.bl.getD k ⟨#[]⟩).data.toList := by
  rw [List.getD_eq_getElem?_getD, List.getElem?_take_of_lt (by omega), ← List.getD_eq_getElem?_getD, qlW hlt, qam hlt]
 have hck := qeI (l := (lvs f0.bl).take f.hd.len.toNat) (i := (k : Int)) (qcV l2 _) (by rw [hlen]; exact qak.2 (by omega)) (by rw [Int.toNat_natCast, hg]; exact qgh _) (qga _)
 rw [hlen, Int.toNat_natCast, hg, ← htx, ← hdg, show ((f.hd.len.toNat : Nat) : Int) = f.hd.len by omega] at hck
 have hmay : qbR f k t (qaQ ((lvs f0.bl).take f.hd.len.toNat) k) = true := by
  unfold qbR
  rw [hck, Int.toNat_natCast, hn, qak.2 (by omega)]; rfl
 have hbl : ∀ i, i < f.bl.length → (f.put k t).hv.getD i false = true → qbi ((f.put k t).bl.getD i ⟨#[]⟩).data.toList = qbi (f0.bl.getD i ⟨#[]⟩).data.toList := fun i hi hh => by
  unfold Fd.put at hh ⊢
  by_cases hie : i = k
  · subst hie
    simp only [List.getD_eq_getElem?_getD, List.getElem?_set_self hi, Option.getD_some]
    rw [← List.getD_eq_getElem?_getD]; exact htx
  · simp only [List.getD_eq_getElem?_getD, List.getElem?_set_ne (Ne.symm hie)] at hh ⊢
    simp only [← List.getD_eq_getElem?_getD] at hh ⊢
    exact hf.bl i hi hh
 have hv := hf.v
 simp only [qaq, Bool.and_eq_true, beq_iff_eq] at hv
 obtain ⟨⟨⟨⟨⟨v1, v2⟩, v3⟩, v4⟩, v5⟩, v6⟩ := hv
 have hbo : qaI (f.put k t).bl (f.put k t).hv = true := by
  refine qjb fun j s b e1 e2 => ?_
  unfold Fd.put at e1 e2
  simp only at e1 e2
  by_cases hjk : k = j
  · subst hjk
    rw [List.getElem?_set_self (by omega)] at e1 e2
    cases e1; cases e2
    simp [qbQ, ht]
  · rw [List.getElem?_set_ne hjk] at e1 e2
    exact qfl v5 e1 e2
 have hval : qaq (f.put k t) = true := by
  simp only [qaq, Bool.and_eq_true, beq_iff_eq]
  refine ⟨⟨⟨⟨⟨v1, v2⟩, ?_⟩, ?_⟩, hbo⟩, ?_⟩
  · show ((f.bl.set k t).length : Int) = _; rw [List.length_set]; exact v3
  · show ((f.hv.set k true).length : Int) = _; rw [List.length_set]; exact v4
  · by_cases hw : qbA (f.put k t).hv = true
    · have hall := qds hw
      have e := qmQ (f := f.put k t) (n := f.bl.length) (by show (f.bl.set k t).length = _; rw [List.length_set]) (by omega) (fun i hi => hbl i hi (by
       have := hall i (by show i < (f.hv.set k true).length; rw [List.length_set]; omega)
       rw [List.getD_eq_getElem?_getD, this]; rfl))
      rw [e, show f.bl.length = f.hd.len.toNat by omega]
      have : (f.put k t).hd.dg = f.hd.dg := rfl
      rw [this, hdg]; simp
    · simp [hw]
 refine ⟨?_, hval, hf.pub, hf.le, hf.hd, fun i hi hh => hbl i (by simpa [Fd.put] using hi) hh⟩
 unfold qes
 rw [hf.v, Int.toNat_natCast, if_pos (by simpa using ht), if_pos (by rw [hmay, hval]; rfl)]

structure Gv (b : Nat) (x y : Wd) : Prop where
 sec : y.sec = x.sec
 bad : y.bad = x.bad
 links : y.links = x.links
 asked : y.asked = x.asked
 net : y.net = x.net
 n : y.feeds.length = x.feeds.length
 oth : ∀ j, j ≠ b → y.feeds.getD j Fd.none = x.feeds.getD j Fd.none
 f0 : y.f0 = x.f0
 wv : WV y
def qn3 (x : Wd) (j : Nat) : Prop := (x.feeds.getD j Fd.none).hd = x.f0.hd ∧ ∀ i, i < (x.feeds.getD j Fd.none).hv.length → (x.feeds.getD j Fd.none).hv.getD i false = true
theorem Gv.refl (b : Nat) {x : Wd} (h : WV x) : Gv b x x := ⟨rfl, rfl, rfl, rfl, rfl, rfl, fun _ _ => rfl, rfl, h⟩
theorem Gv.trans {b : Nat} {x y z : Wd} (h : Gv b x y) (k : Gv b y z) : Gv b x z :=
 ⟨k.sec.trans h.sec, k.bad.trans h.bad, k.links.trans h.links, k.asked.trans h.asked, k.net.trans h.net, k.n.trans h.n, fun j hj => (k.oth j hj).trans (h.oth j hj), k.f0.trans h.f0, k.wv⟩
theorem WV.full0 {x : Wd} (h : WV x) : qn3 x 0 := ⟨rfl, fun i hi => by
 have := qds h.wh i hi
 show (x.feeds.getD 0 Fd.none).hv.getD i false = true
 rw [List.getD_eq_getElem?_getD]
 have e : x.f0 = x.feeds.getD 0 Fd.none := rfl
 rw [← e, this]; rfl⟩
theorem getD_set_ne {l : List Fd} {i j : Nat} (h : j ≠ i) (f d : Fd) : (l.set i f).getD j d = l.getD j d := by
 rw [List.getD_eq_getElem?_getD, List.getD_eq_getElem?_getD, List.getElem?_set_ne (Ne.symm h)]
theorem Gv.setF {x : Wd} (h : WV x) {b : Nat} {f : Fd} (hb : b ≠ 0) (hf : qgA x.sec x.f0 f) : Gv b x { x with feeds := x.feeds.set b f } :=
 ⟨rfl, rfl, rfl, rfl, rfl, by simp, fun j hj => getD_set_ne hj _ _, qly hb, h.setF hb hf⟩
section
variable {x : Wd} {i j : Nat}
theorem WV.fdD (h : WV x) (hj : j < x.feeds.length) : qgA x.sec x.f0 (x.feeds.getD j Fd.none) := by rw [qam hj]; exact h.fd j hj
theorem qhp (h : WV x) (hi : i < x.feeds.length) (hj : j < x.feeds.length) (hl : (x.feeds.getD i Fd.none).hd.len = (x.feeds.getD j Fd.none).hd.len) {k : Nat} (hk : k < (x.feeds.getD i Fd.none).hd.len.toNat) :
 Gv j x (qbW i j x k) ∧ ((qbW i j x k).feeds.getD j Fd.none).hd = (x.feeds.getD j Fd.none).hd ∧
  (∀ m, ((qbW i j x k).feeds.getD j Fd.none).hv.getD m false = ((x.feeds.getD j Fd.none).hv.getD m false || (decide (m = k) && (x.feeds.getD i Fd.none).hv.getD k false))) ∧
  ((x.feeds.getD i Fd.none).hv.getD k false = true → (x.feeds.getD j Fd.none).hv.getD k false = false → j ≠ 0 ∧ qes (x.feeds.getD j Fd.none) k ((x.feeds.getD i Fd.none).bl.getD k ⟨#[]⟩) (qaQ ((lvs x.f0.bl).take (x.feeds.getD i Fd.none).hd.len.toNat) k) = ((x.feeds.getD j Fd.none).put k ((x.feeds.getD i Fd.none).bl.getD k ⟨#[]⟩), true)) := by
 have ha := h.fdD hi
 have hb := h.fdD hj
 obtain ⟨a1, a2, a3⟩ := qax ha.v
 obtain ⟨b1, b2, b3⟩ := qax hb.v
 by_cases hc : (x.feeds.getD i Fd.none).hv.getD k false = true ∧ (x.feeds.getD j Fd.none).hv.getD k false = false
 · obtain ⟨c1, c2⟩ := hc
   have hka : k < (x.feeds.getD i Fd.none).bl.length := by omega
   have ht : ((x.feeds.getD i Fd.none).bl.getD k ⟨#[]⟩).size ≤ 8 := by rw [qam hka]; exact qbH ha.v _ (List.getElem_mem hka)
   obtain ⟨p1, p2⟩ := qmW h.v0 h.key hb (by omega) c2 ht (ha.bl k hka c1)
   have hj0 : j ≠ 0 := fun e => by
    subst e
    have := h.full0.2 k (by omega)
    rw [c2] at this; cases this
   have e : qbW i j x k = { x with feeds := x.feeds.set j ((x.feeds.getD j Fd.none).put k ((x.feeds.getD i Fd.none).bl.getD k ⟨#[]⟩)) } := by
    unfold qbW Wd.feed
    simp only [Int.toNat_natCast]
    rw [c1, c2, if_pos (show (true && !false) = true from rfl), hl, p1]
   have es : ((qbW i j x k).feeds.getD j Fd.none) = (x.feeds.getD j Fd.none).put k ((x.feeds.getD i Fd.none).bl.getD k ⟨#[]⟩) := by
    rw [e]; show (x.feeds.set j _).getD j _ = _
    rw [List.getD_eq_getElem?_getD, List.getElem?_set_self hj]; rfl
   refine ⟨by rw [e]; exact Gv.setF h hj0 p2, by rw [es]; rfl, fun m => ?_, fun _ _ => ⟨hj0, by rw [hl]; exact p1⟩⟩
   rw [es, c1, Bool.and_true]
   show ((x.feeds.getD j Fd.none).hv.set k true).getD m false = _
   rw [qlC, show decide (k < (x.feeds.getD j Fd.none).hv.length) = true from decide_eq_true (by omega), Bool.and_true]
 · have e : qbW i j x k = x := by
    unfold qbW Wd.feed
    simp only [Int.toNat_natCast]
    rw [if_neg]
    simpa using hc
   rw [e]
   refine ⟨Gv.refl j h, rfl, fun m => ?_, fun c1 c2 => absurd ⟨c1, c2⟩ hc⟩
   by_cases hm : m = k
   · subst hm
     cases c1 : (x.feeds.getD i Fd.none).hv.getD m false
     · simp
     · cases c2 : (x.feeds.getD j Fd.none).hv.getD m false
       · exact absurd ⟨c1, c2⟩ hc
       · rfl
   · simp [hm]
theorem qfP (h : WV x) (hij : i ≠ j) (hi : i < x.feeds.length) (hj : j < x.feeds.length) (hl : (x.feeds.getD i Fd.none).hd.len = (x.feeds.getD j Fd.none).hd.len) : ∀ n, n ≤ (x.feeds.getD i Fd.none).hd.len.toNat →
 Gv j x (qby i j x n) ∧ ((qby i j x n).feeds.getD j Fd.none).hd = (x.feeds.getD j Fd.none).hd ∧
  (∀ m, ((qby i j x n).feeds.getD j Fd.none).hv.getD m false = ((x.feeds.getD j Fd.none).hv.getD m false || (decide (m < n) && (x.feeds.getD i Fd.none).hv.getD m false)))
 | 0, _ => ⟨Gv.refl j h, rfl, fun m => by simp [qby]⟩
 | n + 1, hn => by
   obtain ⟨g1, g2, g3⟩ := qfP h hij hi hj hl n (by omega)
   have hio := g1.oth i hij
   have := qhp (x := qby i j x n) (i := i) (j := j) (k := n) g1.wv (by rw [g1.n]; exact hi) (by rw [g1.n]; exact hj) (by rw [hio, g2]; exact hl) (by rw [hio]; omega)
   obtain ⟨q1, q2, q3, _⟩ := this
   rw [qdB]
   refine ⟨g1.trans q1, q2.trans g2, fun m => ?_⟩
   rw [q3, g3, hio]
   by_cases hm : m = n
   · subst hm; simp
   · have : decide (m < n + 1) = decide (m < n) := by rw [decide_eq_decide]; omega
     rw [this]; simp [hm]
theorem qfR (h : WV x) (hi : i < x.feeds.length) (hj : j < x.feeds.length) (hL : qbk x i j = true) : Gv j x (qa0 x i j) := by
 have hw := h.head i j
 unfold qa0 at hw ⊢
 split
 · rename_i hc
   rw [if_pos hc] at hw
   simp only [Bool.and_eq_true, beq_iff_eq] at hc
   have hc1 := hc.1
   unfold qdj at hc1
   simp only [Bool.and_eq_true, decide_eq_true_eq] at hc1
   have hj0 : j ≠ 0 := fun e => by
    subst e
    have := (h.fdD hi).le
    have c : (x.feeds.getD 0 Fd.none).hd.len < (x.feeds.getD i Fd.none).hd.len := hc1.2
    have e0 : x.feeds.getD 0 Fd.none = x.f0 := rfl
    rw [e0] at c
    omega
   simp only [Int.toNat_natCast] at hw ⊢
   exact ⟨rfl, rfl, rfl, rfl, rfl, by simp, fun m hm => getD_set_ne hm _ _, qly hj0, hw⟩
 · exact Gv.refl j h
theorem qlD (h : WV x) (hij : i ≠ j) (hi : i < x.feeds.length) (hj : j < x.feeds.length) (hL : qbk x i j = true) : Gv j x (qa5 x i j) := by
 have g := qfR h hi hj hL
 unfold qa5
 split
 · exact Gv.refl j h
 · split
   · rename_i hl
     exact g.trans (qfP (x := qa0 x i j) g.wv hij (by rw [g.n]; exact hi) (by rw [g.n]; exact hj) hl _ (nr_ _)).1
   · exact g
theorem qlE (h : WV x) (hi : i < x.feeds.length) (hj : j < x.feeds.length) (hf : qn3 x j) : qa5 x i j = x := by
 have hle := (h.fdD hi).le
 have e0 : (x.feeds.getD j Fd.none).hd.len = x.f0.hd.len := by rw [hf.1]
 have hw : qa0 x i j = x := by
  unfold qa0
  rw [if_neg]
  intro hc
  rw [Bool.and_eq_true] at hc
  have hc1 := hc.1
  unfold qdj at hc1
  rw [Bool.and_eq_true, decide_eq_true_eq] at hc1
  have c := hc1.2
  unfold Wd.feed at c
  simp only [Int.toNat_natCast] at c
  omega
 have ht : ∀ n, n ≤ (x.feeds.getD j Fd.none).hd.len.toNat → qby i j x n = x := fun n => by
  induction n with
  | zero => intro _; rfl
  | succ n ih =>
    intro hn
    rw [qdB, ih (by omega)]
    unfold qbW Wd.feed
    simp only [Int.toNat_natCast]
    have hv := qax (h.fdD hj).v
    rw [hf.2 n (by omega)]
    simp
 unfold qa5
 rw [hw]
 split
 · rfl
 · split
   · rename_i hl
     rw [hl]
     exact ht _ (nr_ _)
   · rfl
def NZ (x : Wd) : Prop := ∀ k, (x.feeds.getD k Fd.none).hd.len = 0 → (x.feeds.getD k Fd.none).hd = Hd.zero
theorem qkE : qet x i j = qc9 (x.feeds.getD j Fd.none) (x.feeds.getD i Fd.none).hd (qcv ((lvs x.f0.bl).take (x.feeds.getD i Fd.none).hd.len.toNat) (x.feeds.getD j Fd.none).hd.len) := rfl
theorem qnI (h : WV x) (hj : j < x.feeds.length) : ((qa0 x i j).feeds.getD j Fd.none).hd = (x.feeds.getD j Fd.none).hd ∨ (((qa0 x i j).feeds.getD j Fd.none).hd = (x.feeds.getD i Fd.none).hd ∧ (x.feeds.getD j Fd.none).hd.len < (x.feeds.getD i Fd.none).hd.len) := by
 unfold qa0
 split
 · rename_i hc
   rw [Bool.and_eq_true, beq_iff_eq] at hc
   obtain ⟨c1, c2⟩ := hc
   refine .inr ⟨?_, ?_⟩
   · show (x.feeds.set (j : Int).toNat (qet x i j).1 |>.getD j Fd.none).hd = _
     rw [Int.toNat_natCast, List.getD_eq_getElem?_getD, List.getElem?_set_self hj, Option.getD_some]
     rw [qkE] at c2 ⊢
     have hv := (h.fdD hj).v
     have h0 : qdJ (x.feeds.getD j Fd.none) (x.feeds.getD i Fd.none).hd (qcv ((lvs x.f0.bl).take (x.feeds.getD i Fd.none).hd.len.toNat) (x.feeds.getD j Fd.none).hd.len) = 0 := by
      unfold qc9 at c2; rw [hv] at c2; exact c2
     rw [qd4 hv h0]; rfl
   · unfold qdj at c1
     rw [Bool.and_eq_true, decide_eq_true_eq] at c1
     exact c1.2
 · exact .inl rfl
theorem WV.len0 (h : WV x) {k : Nat} : 0 ≤ (x.feeds.getD k Fd.none).hd.len := by
 by_cases hk : k < x.feeds.length
 · have := qax (h.fdD hk).v; omega
 · rw [List.getD_eq_getElem?_getD, List.getElem?_eq_none (by omega)]; decide
theorem NZ.head (h : WV x) (hz : NZ x) (hi : i < x.feeds.length) (hj : j < x.feeds.length) (hL : qbk x i j = true) : NZ (qa0 x i j) := fun k hk => by
 have g := qfR h hi hj hL
 by_cases hkj : k = j
 · subst hkj
   rcases qnI (i := i) h hj with e | ⟨e, e2⟩
   · rw [e] at hk ⊢; exact hz k hk
   · rw [e] at hk
     have := h.len0 (k := k)
     omega
 · rw [g.oth k hkj] at hk ⊢; exact hz k hk
theorem NZ.give (h : WV x) (hz : NZ x) (hij : i ≠ j) (hi : i < x.feeds.length) (hj : j < x.feeds.length) (hL : qbk x i j = true) : NZ (qa5 x i j) := by
 have g := qfR h hi hj hL
 have hzh := hz.head h hi hj hL
 unfold qa5
 split
 · exact hz
 · split
   · rename_i hl
     obtain ⟨g2, g3, g4⟩ := qfP (x := qa0 x i j) g.wv hij (by rw [g.n]; exact hi) (by rw [g.n]; exact hj) hl _ (nr_ _)
     intro k hk
     by_cases hkj : k = j
     · subst hkj
       rw [show qby i k (qa0 x i k) ((qa0 x i k).feed i).hd.len.toNat = qby i k (qa0 x i k) ((qa0 x i k).feeds.getD i Fd.none).hd.len.toNat from rfl] at hk ⊢
       rw [g3] at hk ⊢; exact hzh k hk
     · rw [show qby i j (qa0 x i j) ((qa0 x i j).feed i).hd.len.toNat = qby i j (qa0 x i j) ((qa0 x i j).feeds.getD i Fd.none).hd.len.toNat from rfl] at hk ⊢
       rw [g2.oth k hkj] at hk ⊢; exact hzh k hk
   · exact hzh
end
end Go.Proofs.YtcplnfmcefkehaaGreat
namespace Go.Proofs.YtcplnfmcefkehaaGreat
open Go.RowKit

structure DW (x : Wd) : Prop where
 v : WV x
 z : NZ x
section
variable {x : Wd}
theorem NZ.set {j : Nat} {f : Fd} (h : NZ x) (hf : f.hd.len = 0 → f.hd = Hd.zero) : NZ { x with feeds := x.feeds.set j f } := fun k => by
 show ((x.feeds.set j f).getD k Fd.none).hd.len = 0 → ((x.feeds.set j f).getD k Fd.none).hd = Hd.zero
 by_cases hkj : k = j
 · subst hkj
   by_cases hk : k < x.feeds.length
   · rw [List.getD_eq_getElem?_getD, List.getElem?_set_self hk]; exact hf
   · rw [List.getD_eq_getElem?_getD, List.getElem?_eq_none (by simp; omega)]; intro _; rfl
 · rw [getD_set_ne hkj]; exact h k
end
end Go.Proofs.YtcplnfmcefkehaaGreat
namespace Go.Proofs.YtcplnfmcefkehaaGreat
open Go.RowKit
attribute [local go_sem ↓] Go.wp_at_zero Go.wp_at_succ

theorem qav.below {B : Nat} {e : TypeId} {w w' : World} {v : Value} {l : List (Int × Int)} (h : qav B e w v l) (hb : Below w.heap.size w w') : qav B e w' v l := h.next (T := [e]) (qaA.of_below hb) (by simp)
theorem qf7 {g P : Nat} {w w' : World} (h : qbb g w w') (hr : Rdr w g P) : qaA LT2 w w' :=
 qaA.of_grown h (fun r hr' => by
  cases hr'
  obtain ⟨bs, A, c, p, h1, _⟩ := hr
  exact ⟨_, _, _, h1, by decide⟩)
theorem qav.only {B g P : Nat} {e : TypeId} {w w' : World} {v : Value} {l : List (Int × Int)} (h : qav B e w v l) (ho : qbb g w w') (hr : Rdr w g P) (he : e ∈ LT2) : qav B e w' v l := h.next (qf7 ho hr) he
end Go.Proofs.YtcplnfmcefkehaaGreat

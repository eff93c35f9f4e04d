/- Plain laws: a valid world taken apart; windows and links. No condition. | Plain laws: whom the writer reaches, and why. No condition. | Plain laws: every event keeps a world valid. No condition. | Plain laws: what a quiet period does. No condition. | Plain: new worlds are valid; heads of empty feeds stay empty. Words: a new world in memory. No condition. | Walks: the reference's windows: a request is appended, requests are removed. No condition but small sizes. | Walks: requests and windows are drawn. No condition. -/
import Derived.Test.YtcplnfmcefkehaaGreatBY
import Derived.Test.YtcplnfmcefkehaaGreatZi
import Derived.Test.YtcplnfmcefkehaaGreatBU
import Derived.Test.YtcplnfmcefkehaaGreatBJ
import Derived.Test.YtcplnfmcefkehaaGreatBW
import Derived.Test.YtcplnfmcefkehaaGreatBG
namespace Go.Proofs.YtcplnfmcefkehaaGreat

/-- A feed that agrees with the writer's. -/
structure FdOk (sec : Int) (f0 f : Fd) : Prop where
  v : fvalid f = true
  pub : f.pub = hpub sec
  le : f.hd.len ≤ f0.hd.len
  hd : f.hd.len = 0 ∨ f.hd = (hmake sec ((lvs f0.bl).take f.hd.len.toNat)).1
  bl : ∀ i, i < f.bl.length → f.hv.getD i false = true → textD (f.bl.getD i ⟨#[]⟩).data.toList = textD (f0.bl.getD i ⟨#[]⟩).data.toList
theorem hdEq_iff {a b : Hd} : hdEq a b = true ↔ a = b := by
  cases a; cases b; simp [hdEq, and_assoc]
theorem feedOk_iff {sec : Int} {f0 f : Fd} : feedOk sec f0 f = true ↔ FdOk sec f0 f := by
  unfold feedOk
  simp only [Bool.and_eq_true, Bool.or_eq_true, beq_iff_eq, decide_eq_true_eq, allB_iff, hdEq_iff]
  constructor
  · rintro ⟨⟨⟨⟨h1, h2⟩, h3⟩, h4⟩, h5⟩
    refine ⟨h1, h2, h3, h4, fun i hi hh => ?_⟩
    have := h5 i hi
    unfold blockAt at this
    rw [hh] at this
    simpa using this
  · rintro ⟨h1, h2, h3, h4, h5⟩
    refine ⟨⟨⟨⟨h1, h2⟩, h3⟩, h4⟩, fun i hi => ?_⟩
    unfold blockAt
    cases hh : f.hv.getD i false
    · rfl
    · simpa using h5 i hi hh
/-- A valid world, taken apart. -/
structure WV (x : Wd) : Prop where
  set : setOk x.sec x.feeds.length x.bad = true
  v0 : fvalid x.f0 = true
  wh : wholeB x.f0.hv = true
  ln : linksOk x.feeds.length x.links = true
  na : x.asked.length = x.feeds.length
  nn : x.net.length ≤ 12
  fd : ∀ j (hj : j < x.feeds.length), FdOk x.sec x.f0 x.feeds[j]
  wd : ∀ j (hj : j < x.asked.length), windowOk x.asked[j] = true
  pc : ∀ j (hj : j < x.net.length), pieceOk x.feeds.length x.f0 x.net[j] = true
theorem wvalid_iff {x : Wd} : wvalid x = true ↔ WV x := by
  unfold wvalid
  simp only [Bool.and_eq_true, beq_iff_eq, decide_eq_true_eq, allB_iff]
  constructor
  · rintro ⟨⟨⟨⟨⟨⟨⟨h1, h2⟩, h3⟩, h4⟩, h5⟩, h6⟩, h7⟩, h8⟩
    refine ⟨h1, h2, h3, h4, h5, h6, fun j hj => ?_, fun j hj => ?_, fun j hj => ?_⟩
    · have := h7 j hj
      unfold peerAt at this
      rw [Bool.and_eq_true, getD_lt hj] at this
      exact feedOk_iff.1 this.1
    · have := h7 j (by omega)
      unfold peerAt at this
      rw [Bool.and_eq_true, getD_lt hj] at this
      exact this.2
    · have := h8 j hj
      unfold netAt at this
      rwa [getD_lt hj] at this
  · rintro ⟨h1, h2, h3, h4, h5, h6, h7, h8, h9⟩
    refine ⟨⟨⟨⟨⟨⟨⟨h1, h2⟩, h3⟩, h4⟩, h5⟩, h6⟩, fun j hj => ?_⟩, fun j hj => ?_⟩
    · unfold peerAt; rw [Bool.and_eq_true, getD_lt hj, getD_lt (by omega)]; exact ⟨feedOk_iff.2 (h7 j hj), h8 j (by omega)⟩
    · unfold netAt; rw [getD_lt hj]; exact h9 j hj
theorem hasA_iff {l : List (Int × Int)} {a : Int × Int} : hasA l a = true ↔ a ∈ l := by
  refine ⟨hasA_mem, fun h => ?_⟩
  unfold hasA
  exact List.any_eq_true.2 ⟨a, h, by simp⟩
/-- A valid window, taken apart. -/
structure WinOk (l : List (Int × Int)) : Prop where
  ok : ∀ a ∈ l, askOk a = true
  nd : l.Nodup
  p : ∀ a ∈ l, cntP l a.1 ≤ 3
  b : ∀ a ∈ l, cntB l a.2 ≤ 2
theorem windowOk_iff {l : List (Int × Int)} : windowOk l = true ↔ WinOk l := by
  unfold windowOk
  rw [allB_iff]
  constructor
  · intro h
    have h' : ∀ j (hj : j < l.length), askOk l[j] = true ∧ hasA (l.take j) l[j] = false ∧ cntP l l[j].1 ≤ 3 ∧ cntB l l[j].2 ≤ 2 := fun j hj => by
      have := h j hj
      unfold askAt at this
      rw [getD_lt hj] at this
      simp only [Bool.and_eq_true, Bool.not_eq_true', decide_eq_true_eq] at this
      exact ⟨this.1.1.1, this.1.1.2, this.1.2, this.2⟩
    refine ⟨fun a ha => ?_, ?_, fun a ha => ?_, fun a ha => ?_⟩
    · obtain ⟨j, hj, rfl⟩ := List.mem_iff_getElem.1 ha; exact (h' j hj).1
    · refine List.pairwise_iff_getElem.2 fun i j hi hj hij he => ?_
      have h2 := (h' j hj).2.1
      have : hasA (l.take j) l[j] = true := hasA_iff.2 (by rw [← he]; exact List.mem_take_iff_getElem.2 ⟨i, by omega, rfl⟩)
      rw [h2] at this; cases this
    · obtain ⟨j, hj, rfl⟩ := List.mem_iff_getElem.1 ha; exact (h' j hj).2.2.1
    · obtain ⟨j, hj, rfl⟩ := List.mem_iff_getElem.1 ha; exact (h' j hj).2.2.2
  · intro h j hj
    unfold askAt
    rw [getD_lt hj]
    simp only [Bool.and_eq_true, Bool.not_eq_true', decide_eq_true_eq]
    have hm := List.getElem_mem hj
    refine ⟨⟨⟨h.ok _ hm, ?_⟩, h.p _ hm⟩, h.b _ hm⟩
    cases hh : hasA (l.take j) l[j]
    · rfl
    · obtain ⟨i, hi, he⟩ := List.mem_take_iff_getElem.1 (hasA_iff.1 hh)
      exact absurd he (List.pairwise_iff_getElem.1 h.nd i j (by omega) hj (by omega))
theorem cntP_sub {l m : List (Int × Int)} (h : l.Sublist m) (p : Int) : cntP l p ≤ cntP m p := h.countP_le
theorem cntB_sub {l m : List (Int × Int)} (h : l.Sublist m) (p : Int) : cntB l p ≤ cntB m p := h.countP_le
theorem WinOk.sub {l m : List (Int × Int)} (hm : WinOk m) (h : l.Sublist m) : WinOk l :=
  ⟨fun a ha => hm.ok a (h.subset ha), h.nodup hm.nd, fun a ha => Nat.le_trans (cntP_sub h _) (hm.p a (h.subset ha)), fun a ha => Nat.le_trans (cntB_sub h _) (hm.b a (h.subset ha))⟩
theorem WinOk.nil : WinOk [] := ⟨fun _ h => (by cases h), List.nodup_nil, fun _ h => (by cases h), fun _ h => (by cases h)⟩
theorem cntP_push (l : List (Int × Int)) (a : Int × Int) (p : Int) : cntP (l ++ [a]) p = cntP l p + if a.1 = p then 1 else 0 := by
  unfold cntP; rw [List.countP_append]; simp [List.countP_cons]
theorem cntB_push (l : List (Int × Int)) (a : Int × Int) (p : Int) : cntB (l ++ [a]) p = cntB l p + if a.2 = p then 1 else 0 := by
  unfold cntB; rw [List.countP_append]; simp [List.countP_cons]
theorem cntP_none {l : List (Int × Int)} {p : Int} (h : ∀ a ∈ l, a.1 ≠ p) : cntP l p = 0 := by
  unfold cntP; rw [List.countP_eq_zero]; intro a ha; simpa using h a ha
theorem WinOk.push {l : List (Int × Int)} (h : WinOk l) {a : Int × Int} (ha : askOk a = true) (hn : a ∉ l) (hp : cntP l a.1 < 3) (hb : cntB l a.2 < 2) : WinOk (l ++ [a]) := by
  refine ⟨fun y hy => ?_, ?_, fun y hy => ?_, fun y hy => ?_⟩
  · rcases List.mem_append.1 hy with h1 | h1
    · exact h.ok y h1
    · rw [List.mem_singleton.1 h1]; exact ha
  · rw [List.nodup_append]
    exact ⟨h.nd, by simp, fun y hy z hz e => by rw [List.mem_singleton.1 hz] at e; subst e; exact hn hy⟩
  · rw [cntP_push]
    rcases List.mem_append.1 hy with h1 | h1
    · have := h.p y h1
      split
      · rename_i e; rw [← e]; omega
      · omega
    · rw [List.mem_singleton.1 h1, if_pos rfl]; omega
  · rw [cntB_push]
    rcases List.mem_append.1 hy with h1 | h1
    · have := h.b y h1
      split
      · rename_i e; rw [← e]; omega
      · omega
    · rw [List.mem_singleton.1 h1, if_pos rfl]; omega
theorem cntP_cons (l : List (Int × Int)) (a : Int × Int) (p : Int) : cntP (a :: l) p = cntP l p + if a.1 = p then 1 else 0 := by
  unfold cntP; simp [List.countP_cons]
theorem win_sum : ∀ {l : List (Int × Int)}, (∀ a ∈ l, askOk a = true) → l.length = cntP l 0 + cntP l 1 + cntP l 2 + cntP l 3 + cntP l 4 + cntP l 5
  | [], _ => rfl
  | a :: l, h => by
    have ih := win_sum (l := l) fun y hy => h y (List.mem_cons_of_mem _ hy)
    have ha := h a List.mem_cons_self
    unfold askOk at ha
    rw [Bool.and_eq_true, inB_true] at ha
    simp only [List.length_cons, cntP_cons]
    obtain ⟨⟨h1, h2⟩, _⟩ := ha
    have : a.1 = 0 ∨ a.1 = 1 ∨ a.1 = 2 ∨ a.1 = 3 ∨ a.1 = 4 ∨ a.1 = 5 := by omega
    rcases this with e | e | e | e | e | e <;> simp [e] <;> omega
theorem WinOk.le3 {l : List (Int × Int)} (h : WinOk l) (p : Int) : cntP l p ≤ 3 := by
  by_cases hp : ∃ a ∈ l, a.1 = p
  · obtain ⟨a, ha, rfl⟩ := hp; exact h.p a ha
  · rw [cntP_none fun a ha e => hp ⟨a, ha, e⟩]; omega
theorem WinOk.len {l : List (Int × Int)} (h : WinOk l) : l.length ≤ 18 := by
  have := win_sum h.ok
  have := h.le3 0
  have := h.le3 1
  have := h.le3 2
  have := h.le3 3
  have := h.le3 4
  have := h.le3 5
  omega

theorem ltL_iff {a b : Int × Int} : ltL a b = true ↔ (a.1 < b.1 ∨ (a.1 = b.1 ∧ a.2 < b.2)) := by unfold ltL; simp
theorem gtL_iff {l x : Int × Int} : gtL l x = true ↔ ltL x l = true := by
  unfold gtL; rw [ltL_iff]
  simp only [Bool.or_eq_true, decide_eq_true_eq, Bool.and_eq_true, beq_iff_eq]
  constructor <;> (intro h; omega)
theorem ltL_trans {a b c : Int × Int} (h : ltL a b = true) (h2 : ltL b c = true) : ltL a c = true := by
  rw [ltL_iff] at *; omega
theorem linksOk_iff {n : Nat} {l : List (Int × Int)} : linksOk n l = true ↔ (∀ y ∈ l, linkOk n y = true) ∧ l.Pairwise (fun a b => ltL a b = true) := by
  unfold linksOk
  rw [allB_iff]
  constructor
  · intro h
    have h' : ∀ j (hj : j < l.length), linkOk n l[j] = true ∧ ∀ i (hi : i < l.length), i + 1 = j → ltL l[i] l[j] = true := fun j hj => by
      have := h j hj
      unfold linkAt at this
      rw [getD_lt hj] at this
      simp only [Bool.and_eq_true, Bool.or_eq_true, beq_iff_eq] at this
      refine ⟨this.1, fun i hi e => ?_⟩
      subst e
      rcases this.2 with h0 | h0
      · omega
      · rwa [Nat.add_sub_cancel, getD_lt hi] at h0
    refine ⟨fun y hy => ?_, List.pairwise_iff_getElem.2 fun i j hi hj hij => ?_⟩
    · obtain ⟨j, hj, rfl⟩ := List.mem_iff_getElem.1 hy; exact (h' j hj).1
    · induction j with
      | zero => omega
      | succ j ih =>
        have h1 := (h' (j + 1) hj).2 j (by omega) rfl
        by_cases hij' : i = j
        · subst hij'; exact h1
        · exact ltL_trans (ih (by omega) (by omega)) h1
  · rintro ⟨h1, h2⟩ j hj
    unfold linkAt
    rw [getD_lt hj, h1 _ (List.getElem_mem hj), Bool.true_and, Bool.or_eq_true, beq_iff_eq]
    by_cases h0 : j = 0
    · exact .inl h0
    · refine .inr ?_
      rw [getD_lt (by omega)]
      exact List.pairwise_iff_getElem.1 h2 (j - 1) j (by omega) hj (by omega)
theorem sorted_len (f : Int × Int → Int) : ∀ {l : List (Int × Int)} (m : Int), m ≤ 36 → (∀ y ∈ l, m ≤ f y ∧ f y ≤ 35) → l.Pairwise (fun a b => f a < f b) → (l.length : Int) ≤ 36 - m
  | [], m, hm, _, _ => by simp; omega
  | a :: l, m, hm, h, hp => by
    have ha := h a List.mem_cons_self
    rw [List.pairwise_cons] at hp
    have := sorted_len f (l := l) (f a + 1) (by omega) (fun y hy => ⟨by have := hp.1 y hy; omega, (h y (List.mem_cons_of_mem _ hy)).2⟩) hp.2
    simp only [List.length_cons]
    omega
theorem links_len {n : Nat} {l : List (Int × Int)} (hn : n ≤ 6) (h : linksOk n l = true) : l.length ≤ 36 := by
  obtain ⟨h1, h2⟩ := linksOk_iff.1 h
  have hb : ∀ y ∈ l, 0 ≤ y.1 ∧ y.1 ≤ 5 ∧ 0 ≤ y.2 ∧ y.2 ≤ 5 := fun y hy => by
    have := h1 y hy
    unfold linkOk at this
    rw [Bool.and_eq_true, inB_true, inB_true] at this
    omega
  have := sorted_len (fun y => y.1 * 6 + y.2) (l := l) 0 (by omega) (fun y hy => by have := hb y hy; omega) (h2.imp_of_mem (fun {a b} ha hb' hab => by
    have := hb a ha
    have := hb b hb'
    rw [ltL_iff] at hab
    omega))
  omega
/-- A list of links with one more. -/
def insL : List (Int × Int) → Int × Int → List (Int × Int)
  | [], x => [x]
  | l :: r, x => if gtL l x then x :: l :: r else l :: insL r x
theorem insL_mem {x : Int × Int} : ∀ {l : List (Int × Int)} {y : Int × Int}, y ∈ insL l x ↔ y ∈ l ∨ y = x
  | [], y => by simp [insL]
  | l :: r, y => by
    unfold insL
    split
    · simp only [List.mem_cons]
      constructor
      · rintro (h | h | h) <;> simp [h]
      · rintro ((h | h) | h) <;> simp [h]
    · rw [List.mem_cons, insL_mem, List.mem_cons, or_assoc]
theorem insL_sorted {x : Int × Int} : ∀ {l : List (Int × Int)}, x ∉ l → l.Pairwise (fun a b => ltL a b = true) → (insL l x).Pairwise (fun a b => ltL a b = true)
  | [], _, _ => by simp [insL]
  | l :: r, hx, hp => by
    unfold insL
    split
    · rename_i hg
      rw [List.pairwise_cons]
      refine ⟨fun y hy => ?_, hp⟩
      rw [List.pairwise_cons] at hp
      rw [List.mem_cons] at hy
      rcases hy with rfl | hy
      · exact gtL_iff.1 hg
      · exact ltL_trans (gtL_iff.1 hg) (hp.1 y hy)
    · rename_i hg
      rw [List.pairwise_cons] at hp ⊢
      rw [List.mem_cons, not_or] at hx
      refine ⟨fun y hy => ?_, insL_sorted hx.2 hp.2⟩
      rcases insL_mem.1 hy with hy | rfl
      · exact hp.1 y hy
      · rw [gtL_iff, ltL_iff] at hg
        rw [ltL_iff]
        have : ¬ (y.1 = l.1 ∧ y.2 = l.2) := fun e => hx.1 (Prod.ext e.1 e.2)
        omega
theorem turn_out (k : Int × Int) : ∀ (ls out : List (Int × Int)), ls.foldl turn1 ⟨out, false, k⟩ = ⟨out ++ ls.filter (fun l => !(l.1 == k.1 && l.2 == k.2)), false, k⟩
  | [], out => by simp
  | l :: ls, out => by
    rw [List.foldl_cons, turn1_no rfl, List.filter_cons]
    dsimp only
    cases h : (l.1 == k.1 && l.2 == k.2)
    · simp only [Bool.false_eq_true, if_false, Bool.not_false, if_true]
      rw [turn_out k ls, List.append_assoc]; rfl
    · simp only [if_true, Bool.not_true, Bool.false_eq_true, if_false]
      exact turn_out k ls out
theorem turn_ins (k : Int × Int) : ∀ (ls out : List (Int × Int)), (∀ y ∈ ls, 0 ≤ y.1) → k ∉ ls →
    (if (ls.foldl turn1 ⟨out, true, k⟩).up then (ls.foldl turn1 ⟨out, true, k⟩).out ++ [(ls.foldl turn1 ⟨out, true, k⟩).key] else (ls.foldl turn1 ⟨out, true, k⟩).out) = out ++ insL ls k
  | [], out, _, _ => by simp [insL]
  | l :: ls, out, h0, hk => by
    have hl := h0 l List.mem_cons_self
    rw [List.mem_cons, not_or] at hk
    rw [List.foldl_cons]
    unfold insL
    by_cases hg : gtL l k = true
    · rw [turn1_gt rfl hg]
      have h1 : (l.1 == (-1 : Int)) = false := by rw [beq_eq_false_iff_ne]; omega
      rw [h1]
      simp only [Bool.false_and, Bool.false_eq_true, if_false]
      rw [turn_out, hg]
      simp only [Bool.false_eq_true, if_false, if_true]
      rw [List.filter_eq_self.2 fun y hy => by
        have := h0 y (List.mem_cons_of_mem _ hy)
        have : (y.1 == (-1 : Int)) = false := by rw [beq_eq_false_iff_ne]; omega
        rw [this]; rfl]
      simp
    · rw [turn1_no (by simpa using hg), if_neg hg]
      have h1 : (l.1 == k.1 && l.2 == k.2) = false := by
        cases h : (l.1 == k.1 && l.2 == k.2)
        · rfl
        · simp only [Bool.and_eq_true, beq_iff_eq] at h
          exact absurd (Prod.ext h.1 h.2).symm hk.1
      dsimp only
      rw [h1]
      simp only [Bool.false_eq_true, if_false]
      rw [turn_ins k ls (out ++ [l]) (fun y hy => h0 y (List.mem_cons_of_mem _ hy)) hk.2, List.append_assoc]
      rfl
theorem turnL_up {ls : List (Int × Int)} {k : Int × Int} (h0 : ∀ y ∈ ls, 0 ≤ y.1) (hk : k ∉ ls) : turnL ls k true = insL ls k := by
  have := turn_ins k ls [] h0 hk
  rwa [List.nil_append] at this
theorem turnL_down (ls : List (Int × Int)) (k : Int × Int) : turnL ls k false = ls.filter (fun l => !(l.1 == k.1 && l.2 == k.2)) := by
  unfold turnL
  simp only [turn_out]
  simp
theorem proofOf_len (l : List Int) (i : Int) : (proofOf l i).length ≤ 100 := by
  unfold proofOf
  split
  · rename_i h
    rw [Bool.and_eq_true] at h
    have h1 := (leavesOk_true.1 h.1).1
    have h2 := inB_true.1 h.2
    obtain ⟨p1, p2, p3, _⟩ := pk_ok l.length (by omega) i.toNat (by omega)
    have ht := trees_len 0 l.length
    unfold proofAt sibs others
    simp only [List.length_append, List.length_map, List.length_range, List.length_eraseIdx]
    split <;> omega
  · simp
theorem pieceOk_iff {n : Nat} {f0 : Fd} {p : Pc} : pieceOk n f0 p = true ↔ inB p.fr 0 ((n : Int) - 1) = true ∧ inB p.to_ 0 ((n : Int) - 1) = true ∧ inB p.len 1 f0.hd.len = true ∧ inB p.idx 0 (p.len - 1) = true ∧ p.txt.size ≤ 8 ∧ p.prf = proofOf ((lvs f0.bl).take p.len.toNat) p.idx := by
  unfold pieceOk
  simp only [Bool.and_eq_true, decide_eq_true_eq, beq_iff_eq, and_assoc]
theorem WV.wi {x : Wd} (h : WV x) : WI 40 x := by
  obtain ⟨s1, s2, s3, s4, s5⟩ := setOk_true h.set
  have hf := h.fd 0 (by omega)
  have h0 : x.f0 = x.feeds[0]'(by omega) := getD_lt (by omega) _
  refine ⟨s1, s2, s3, h.na, by rw [h0]; exact hf.pub, h.wh, fun j hj => ⟨(h.fd j hj).v, (h.fd j hj).le⟩, fun j hj => (linksOk_iff.1 h.ln).1 _ (List.getElem_mem hj), fun j hj => Nat.le_trans (windowOk_iff.1 (h.wd j hj)).len (by omega), Nat.le_trans (links_len s3 h.ln) (by omega), h.nn, fun j hj => ?_⟩
  obtain ⟨p1, p2, p3, p4, p5, p6⟩ := pieceOk_iff.1 (h.pc j hj)
  exact ⟨p1, p2, p5, by rw [p6]; exact proofOf_len _ _⟩
end Go.Proofs.YtcplnfmcefkehaaGreat
namespace Go.Proofs.YtcplnfmcefkehaaGreat

/-- What one state reaches, the other does. -/
def leB (a b : List Bool) : Prop := ∀ i, a.getD i false = true → b.getD i false = true
theorem leB.refl (a : List Bool) : leB a a := fun _ h => h
theorem leB.trans {a b c : List Bool} (h : leB a b) (h2 : leB b c) : leB a c := fun i hi => h2 i (h i hi)
theorem getD_set_ {a : List Bool} {i j : Nat} : (a.set j true).getD i false = (a.getD i false || (decide (i = j) && decide (j < a.length))) := by
  rw [List.getD_eq_getElem?_getD, List.getD_eq_getElem?_getD, List.getElem?_set]
  by_cases h : j = i
  · subst h
    by_cases h2 : j < a.length
    · simp [h2]
    · simp [h2]
  · have : i ≠ j := fun e => h e.symm
    simp [h, this]
theorem leB_set (a : List Bool) (j : Nat) : leB a (a.set j true) := fun i h => by rw [getD_set_, h]; rfl
theorem leB_one (bad : Int) (st : List Bool) (l : Int × Int) : leB st (reach1 bad st l) := by
  unfold reach1
  simp only
  split <;> split
  · exact (leB_set _ _).trans (leB_set _ _)
  · exact leB_set _ _
  · exact leB_set _ _
  · exact leB.refl _
theorem leB_fold (bad : Int) : ∀ (ls : List (Int × Int)) (st : List Bool), leB st (ls.foldl (reach1 bad) st)
  | [], st => leB.refl st
  | l :: ls, st => (leB_one bad st l).trans (leB_fold bad ls _)
theorem leB_anti {a b : List Bool} (hl : a.length = b.length) (h : leB a b) (h2 : leB b a) : a = b := by
  refine List.ext_getElem hl fun i hi hi2 => ?_
  have e1 : a.getD i false = a[i] := getD_lt hi _
  have e2 : b.getD i false = b[i] := getD_lt hi2 _
  rw [← e1, ← e2]
  cases ha : a.getD i false
  · cases hb : b.getD i false
    · rfl
    · rw [h2 i hb] at ha; cases ha
  · exact (h i ha).symm
theorem leB_tail {x y : Bool} {a b : List Bool} (h : leB (x :: a) (y :: b)) : leB a b := fun i hi => by
  have := h (i + 1) (by simpa using hi)
  simpa using this
theorem leB_count : ∀ {a b : List Bool}, a.length = b.length → leB a b → a.count true ≤ b.count true ∧ (b.count true ≤ a.count true → a = b)
  | [], [], _, _ => ⟨Nat.le_refl _, fun _ => rfl⟩
  | x :: a, y :: b, hl, h => by
    have ih := leB_count (a := a) (b := b) (by simpa using hl) (leB_tail h)
    have h0 : x = true → y = true := fun e => by have := h 0 (by simpa using e); simpa using this
    rw [List.count_cons, List.count_cons]
    cases x <;> cases y
    · simpa using ih
    · refine ⟨by simp; omega, fun h => ?_⟩
      simp at h
      omega
    · exact absurd (h0 rfl) (by simp)
    · simpa using ih
  | [], _ :: _, hl, _ => by simp at hl
  | _ :: _, [], hl, _ => by simp at hl
theorem fold_fix (bad : Int) : ∀ (ls : List (Int × Int)) (st : List Bool), ls.foldl (reach1 bad) st = st → ∀ l ∈ ls, reach1 bad st l = st
  | [], _, _, _, hl => by cases hl
  | a :: ls, st, h, l, hl => by
    rw [List.foldl_cons] at h
    have ha : reach1 bad st a = st := leB_anti (reach1_len _ _ _) (fun i hi => by
      have := leB_fold bad ls (reach1 bad st a) i hi
      rwa [h] at this) (leB_one _ _ _)
    rw [ha] at h
    rcases List.mem_cons.1 hl with rfl | hl
    · exact ha
    · exact fold_fix bad ls st h l hl
theorem fix_clos {bad : Int} {st : List Bool} {l : Int × Int} (h1 : l.1.toNat < st.length) (h2 : l.2.toNat < st.length) (h : reach1 bad st l = st) :
    (st.getD l.1.toNat false = true → l.1 ≠ bad → st.getD l.2.toNat false = true) ∧ (st.getD l.2.toNat false = true → l.2 ≠ bad → st.getD l.1.toNat false = true) := by
  constructor
  · intro ha hb
    rw [← h]
    unfold reach1
    simp only
    have e : (if (st.getD l.1.toNat false && l.1 != bad) = true then st.set l.2.toNat true else st) = st.set l.2.toNat true := if_pos (by rw [ha]; simpa using hb)
    rw [e]
    have : (st.set l.2.toNat true).getD l.2.toNat false = true := by rw [getD_set_]; simp [h2]
    split
    · exact leB_set _ _ _ this
    · exact this
  · intro ha hb
    rw [← h]
    unfold reach1
    simp only
    have h3 : ∀ s1, leB st s1 → s1.length = st.length → (if (s1.getD l.2.toNat false && l.2 != bad) = true then s1.set l.1.toNat true else s1).getD l.1.toNat false = true := fun s1 hs hl => by
      rw [if_pos (by rw [hs _ ha]; simpa using hb), getD_set_, hl]; simp [h1]
    split
    · exact h3 _ (leB_set _ _) (by simp)
    · exact h3 _ (leB.refl _) rfl
/-- Why a peer is reached. -/
def Why (bad : Int) (ls : List (Int × Int)) (st : List Bool) : Prop := ∀ i, st.getD i false = true → i = 0 ∨ ∃ k : Nat, st.getD k false = true ∧ (k : Int) ≠ bad ∧ linkKey i k ∈ ls
theorem why_set {bad : Int} {ls : List (Int × Int)} {st : List Bool} {j k : Nat} (h : Why bad ls st) (hk : st.getD k false = true) (hb : (k : Int) ≠ bad) (hl : linkKey j k ∈ ls) : Why bad ls (st.set j true) := fun i hi => by
  rw [getD_set_, Bool.or_eq_true] at hi
  rcases hi with hi | hi
  · rcases h i hi with h0 | ⟨m, h1, h2, h3⟩
    · exact .inl h0
    · exact .inr ⟨m, leB_set _ _ _ h1, h2, h3⟩
  · simp only [Bool.and_eq_true, decide_eq_true_eq] at hi
    obtain ⟨rfl, _⟩ := hi
    exact .inr ⟨k, leB_set _ _ _ hk, hb, hl⟩
theorem why_one {bad : Int} {ls : List (Int × Int)} {st : List Bool} {l : Int × Int} (h : Why bad ls st) (hl : l ∈ ls) (h0 : 0 ≤ l.1 ∧ l.1 < l.2) : Why bad ls (reach1 bad st l) := by
  have e1 : linkKey (l.2.toNat : Nat) (l.1.toNat : Nat) = l := by
    unfold linkKey; exact Prod.ext (by show min _ _ = l.1; omega) (by show max _ _ = l.2; omega)
  have e2 : linkKey (l.1.toNat : Nat) (l.2.toNat : Nat) = l := by
    unfold linkKey; exact Prod.ext (by show min _ _ = l.1; omega) (by show max _ _ = l.2; omega)
  have h1 : Why bad ls (if (st.getD l.1.toNat false && l.1 != bad) = true then st.set l.2.toNat true else st) := by
    split
    · rename_i hc
      rw [Bool.and_eq_true] at hc
      exact why_set h hc.1 (by have := hc.2; simp at this; omega) (by rw [e1]; exact hl)
    · exact h
  unfold reach1
  simp only
  generalize (if (st.getD l.1.toNat false && l.1 != bad) = true then st.set l.2.toNat true else st) = s1 at h1 ⊢
  split
  · rename_i hc
    rw [Bool.and_eq_true] at hc
    exact why_set h1 hc.1 (by have := hc.2; simp at this; omega) (by rw [e2]; exact hl)
  · exact h1
theorem why_fold {bad : Int} {ls : List (Int × Int)} : ∀ (r : List (Int × Int)) {st : List Bool}, (∀ l ∈ r, l ∈ ls ∧ 0 ≤ l.1 ∧ l.1 < l.2) → Why bad ls st → Why bad ls (r.foldl (reach1 bad) st)
  | [], _, _, h => h
  | a :: r, st, hr, h => why_fold r (fun l hl => hr l (List.mem_cons_of_mem _ hl)) (why_one h (hr a List.mem_cons_self).1 (hr a List.mem_cons_self).2)
theorem reachN_step (bad : Int) (ls : List (Int × Int)) (n k : Nat) : reachN bad ls n (k + 1) = ls.foldl (reach1 bad) (reachN bad ls n k) := by
  rw [reachN]; unfold reachP; rw [List.take_length]
theorem start_get {b : Int} {ls : List (Int × Int)} {n i : Nat} : (reachN b ls n 0).getD i false = true ↔ i = 0 ∧ 0 < n := by
  rw [reachN, getD_set_]
  have : (List.replicate n false).getD i false = false := by
    rw [List.getD_eq_getElem?_getD, List.getElem?_replicate]; split <;> rfl
  rw [this]
  simp
theorem reachN_why {bad : Int} {ls : List (Int × Int)} {n : Nat} (h : ∀ l ∈ ls, 0 ≤ l.1 ∧ l.1 < l.2) : ∀ k, Why bad ls (reachN bad ls n k)
  | 0 => fun i hi => .inl (start_get.1 hi).1
  | k + 1 => by rw [reachN_step]; exact why_fold ls (fun l hl => ⟨hl, h l hl⟩) (reachN_why h k)
theorem reachN_le (bad : Int) (ls : List (Int × Int)) (n : Nat) {k : Nat} : ∀ {m : Nat}, k ≤ m → leB (reachN bad ls n k) (reachN bad ls n m)
  | 0, h => by have : k = 0 := by omega
               subst this; exact leB.refl _
  | m + 1, h => by
    by_cases he : k = m + 1
    · subst he; exact leB.refl _
    · rw [reachN_step]; exact (reachN_le bad ls n (m := m) (by omega)).trans (leB_fold _ _ _)
theorem reachN_zero {bad : Int} {ls : List (Int × Int)} {n : Nat} (hn : 0 < n) (k : Nat) : (reachN bad ls n k).getD 0 false = true := reachN_le bad ls n (Nat.zero_le k) 0 (start_get.2 ⟨rfl, hn⟩)
theorem reachN_fix (bad : Int) (ls : List (Int × Int)) {n : Nat} (hn : 0 < n) : ls.foldl (reach1 bad) (reachN bad ls n n) = reachN bad ls n n := by
  have hst : ∀ k, reachN bad ls n (k + 1) = reachN bad ls n k → ∀ m, k ≤ m → reachN bad ls n (m + 1) = reachN bad ls n m := fun k hk m hm => by
    induction m with
    | zero => obtain rfl : k = 0 := by omega
              exact hk
    | succ m ih =>
      by_cases he : k = m + 1
      · subst he; exact hk
      · rw [reachN_step, ih (by omega), ← reachN_step, ih (by omega)]
  have hcnt : ∀ k, (∀ j, j < k → reachN bad ls n (j + 1) ≠ reachN bad ls n j) → k + 1 ≤ (reachN bad ls n k).count true := fun k => by
    induction k with
    | zero =>
      intro _
      have : true ∈ reachN bad ls n 0 := by
        have h0 := reachN_zero (bad := bad) (ls := ls) hn 0
        rw [getD_lt (by rw [reachN_len]; exact hn)] at h0
        rw [← h0]; exact List.getElem_mem _
      exact List.count_pos_iff.2 this
    | succ k ih =>
      intro h
      have h1 := ih fun j hj => h j (by omega)
      have hc := leB_count (a := reachN bad ls n k) (b := reachN bad ls n (k + 1)) (by rw [reachN_len, reachN_len]) (reachN_le bad ls n (Nat.le_succ k))
      have h2 := h k (by omega)
      by_cases hle : (reachN bad ls n (k + 1)).count true ≤ (reachN bad ls n k).count true
      · exact absurd (hc.2 hle).symm h2
      · omega
  by_cases hall : ∀ j, j < n → reachN bad ls n (j + 1) ≠ reachN bad ls n j
  · have h1 := hcnt n hall
    have h2 : (reachN bad ls n n).count true ≤ (reachN bad ls n n).length := List.count_le_length
    rw [reachN_len] at h2
    omega
  · have : ∃ j, j < n ∧ reachN bad ls n (j + 1) = reachN bad ls n j := by
      refine Classical.byContradiction fun hno => hall fun j hj he => hno ⟨j, hj, he⟩
    obtain ⟨j, hj, he⟩ := this
    have := hst j he n (by omega)
    rwa [reachN_step] at this
theorem pickB_mem {st : List Bool} {m : Nat} {c : Int} : c ∈ pickB st m ↔ ∃ i : Nat, c = i ∧ i < m ∧ st.getD i false = true := by
  unfold pickB
  simp only [List.mem_map, List.mem_filter, List.mem_range]
  constructor
  · rintro ⟨i, ⟨h1, h2⟩, rfl⟩; exact ⟨i, rfl, h1, h2⟩
  · rintro ⟨i, rfl, h1, h2⟩; exact ⟨i, ⟨h1, h2⟩, rfl⟩
theorem pickB_sorted (st : List Bool) (m : Nat) : (pickB st m).Pairwise (· < ·) := by
  unfold pickB
  rw [List.pairwise_map]
  exact (List.pairwise_lt_range.sublist List.filter_sublist).imp fun h => by omega
section
variable {x : Wd}
theorem wreach_ok (h : wvalid x = true) : wreach x = pickB (reachN x.bad x.links x.feeds.length x.feeds.length) x.feeds.length := by unfold wreach; rw [if_pos h]
theorem wreach_sorted (x : Wd) : (wreach x).Pairwise (· < ·) := by
  unfold wreach; split
  · exact pickB_sorted _ _
  · exact List.Pairwise.nil
theorem wreach_mem (h : wvalid x = true) {c : Int} : c ∈ wreach x ↔ ∃ i : Nat, c = i ∧ i < x.feeds.length ∧ (reachN x.bad x.links x.feeds.length x.feeds.length).getD i false = true := by rw [wreach_ok h, pickB_mem]
theorem wreach_zero (h : wvalid x = true) : (0 : Int) ∈ wreach x := by
  have := (wvalid_links h).1
  exact (wreach_mem h).2 ⟨0, rfl, by omega, reachN_zero (by omega) _⟩
theorem links_lt (h : wvalid x = true) : ∀ l ∈ x.links, 0 ≤ l.1 ∧ l.1 < l.2 ∧ l.2 < x.feeds.length := fun l hl => by
  have := (linksOk_iff.1 (wvalid_iff.1 h).ln).1 l hl
  unfold linkOk at this
  rw [Bool.and_eq_true, inB_true, inB_true] at this
  omega
theorem wreach_first (h : wvalid x = true) : ∃ r, wreach x = 0 :: r ∧ ∀ c ∈ r, c ≠ 0 := by
  have hs := wreach_sorted x
  have h0 := wreach_zero h
  have hm : ∀ c ∈ wreach x, 0 ≤ c := fun c hc => by obtain ⟨i, rfl, _⟩ := (wreach_mem h).1 hc; omega
  cases hl : wreach x with
  | nil => rw [hl] at h0; cases h0
  | cons a r =>
    rw [hl] at hs h0 hm
    rw [List.pairwise_cons] at hs
    have ha := hm a List.mem_cons_self
    have h1 : a = 0 := by
      rcases List.mem_cons.1 h0 with e | e
      · exact e.symm
      · have := hs.1 0 e; omega
    subst h1
    exact ⟨r, rfl, fun c hc => by have := hs.1 c hc; omega⟩
/-- Each reached peer but the writer has a reason. -/
theorem reason_law (h : wvalid x = true) {c : Int} (hc : c ∈ wreach x) (h0 : c ≠ 0) : ∃ d ∈ wreach x, d ≠ x.bad ∧ linked x c d = true := by
  obtain ⟨i, rfl, hi, hg⟩ := (wreach_mem h).1 hc
  have hl := links_lt h
  rcases reachN_why (fun l hl' => ⟨(hl l hl').1, (hl l hl').2.1⟩) _ i hg with e | ⟨k, h1, h2, h3⟩
  · omega
  · have hk : k < x.feeds.length := by
      rw [List.getD_eq_getElem?_getD] at h1
      refine Classical.byContradiction fun hn => ?_
      rw [List.getElem?_eq_none (by rw [reachN_len]; omega)] at h1
      cases h1
    exact ⟨k, (wreach_mem h).2 ⟨k, rfl, hk, h1⟩, h2, hasA_iff.2 h3⟩
/-- Whoever is connected to a reached peer that is not bad is reached. -/
theorem reach_law (h : wvalid x = true) {c : Int} (hc : c ∈ wreach x) (hb : c ≠ x.bad) {k : Nat} (hl : linked x c k = true) : (k : Int) ∈ wreach x := by
  obtain ⟨i, rfl, hi, hg⟩ := (wreach_mem h).1 hc
  have hm := hasA_iff.1 hl
  have hlt := links_lt h _ hm
  have hfix := fold_fix _ _ _ (reachN_fix x.bad x.links (n := x.feeds.length) (by omega)) _ hm
  unfold linkKey at hlt hfix
  simp only at hlt
  have hk : k < x.feeds.length := by omega
  obtain ⟨c1, c2⟩ := fix_clos (by rw [reachN_len]; show (min (i : Int) k).toNat < _; omega) (by rw [reachN_len]; show (max (i : Int) k).toNat < _; omega) hfix
  refine (wreach_mem h).2 ⟨k, rfl, hk, ?_⟩
  rcases Nat.lt_or_gt_of_ne (show i ≠ k by omega) with hik | hik
  · have e1 : (min (i : Int) (k : Int)) = i := by omega
    have e2 : (max (i : Int) (k : Int)) = k := by omega
    have := c1 (by show List.getD _ (min (i : Int) (k : Int)).toNat _ = _; rw [e1]; exact hg) (by show min (i : Int) (k : Int) ≠ _; rw [e1]; exact hb)
    have h2 : List.getD (reachN x.bad x.links x.feeds.length x.feeds.length) (max (i : Int) (k : Int)).toNat false = true := this
    rwa [e2] at h2
  · have e1 : (min (i : Int) (k : Int)) = k := by omega
    have e2 : (max (i : Int) (k : Int)) = i := by omega
    have := c2 (by show List.getD _ (max (i : Int) (k : Int)).toNat _ = _; rw [e2]; exact hg) (by show max (i : Int) (k : Int) ≠ _; rw [e2]; exact hb)
    have h2 : List.getD (reachN x.bad x.links x.feeds.length x.feeds.length) (min (i : Int) (k : Int)).toNat false = true := this
    rwa [e1] at h2
end
end Go.Proofs.YtcplnfmcefkehaaGreat
namespace Go.Proofs.YtcplnfmcefkehaaGreat

theorem pair_inj_l {a a' b : Int} (h1 : dig a = true) (h2 : dig a' = true) (h : pair a b = pair a' b) : a = a' := by
  rw [dig_true] at h1 h2; unfold pair at h; omega
theorem pair_inj_r {a b b' : Int} (h1 : dig b = true) (h2 : dig b' = true) (h : pair a b = pair a b') : b = b' := by
  rw [dig_true] at h1 h2; unfold pair at h; omega
theorem pathR_inj (i : Nat) : ∀ (xs : List Int) (j : Nat) (r r' : Int), dig r = true → dig r' = true → pathR i j r xs = pathR i j r' xs → r = r'
  | [], _, _, _, _, _, h => h
  | x :: xs, j, r, r', h1, h2, h => by
    unfold pathR at h
    have := pathR_inj i xs (j + 1) _ _ (by split <;> exact pair_dig _ _) (by split <;> exact pair_dig _ _) h
    split at this
    · exact pair_inj_l h1 h2 this
    · exact pair_inj_r h1 h2 this
theorem fold_inj : ∀ (l : List Int) {a a' : Int}, dig a = true → dig a' = true → fold a l = fold a' l → a = a'
  | [], _, _, _, _, h => h
  | x :: l, a, a', h1, h2, h => pair_inj_l h1 h2 (fold_inj l (pair_dig a x) (pair_dig a' x) h)
/-- A check takes one leaf alone. -/
theorem check_one {dg n i a b : Int} {p : List Int} (ha : checkOf dg n i a p = true) (hb : checkOf dg n i b p = true) : a = b := by
  unfold checkOf at ha hb
  simp only [Bool.and_eq_true] at ha hb
  obtain ⟨⟨⟨⟨_, _⟩, da⟩, _⟩, ca⟩ := ha
  obtain ⟨⟨⟨⟨_, _⟩, db⟩, _⟩, cb⟩ := hb
  unfold checkAt at ca cb
  simp only [Bool.and_eq_true, beq_iff_eq] at ca cb
  have h := ca.2.trans cb.2.symm
  have e : ∀ (x : Int) (A B : List Int) (r : Int), fold x (A ++ [r] ++ B) = fold (pair (fold x A) r) B := fun x A B r => by
    unfold fold; rw [List.foldl_append, List.foldl_append]; rfl
  rw [e, e] at h
  have h2 := pair_inj_r (pathR_dig _ _ _ _ da) (pathR_dig _ _ _ _ db) (fold_inj _ (pair_dig _ _) (pair_dig _ _) h)
  exact pathR_inj _ _ _ _ _ da db h2
theorem coprime997 : ∀ b, b < 997 → b ≠ 0 → Nat.gcd 997 b = 1 := by decide +kernel
theorem mul_ne {a b : Nat} (ha : 1 ≤ a) (ha2 : a < 997) (hb : 1 ≤ b) (hb2 : b < 997) : a * b % 997 ≠ 0 := fun h => by
  have h1 : 997 ∣ a * b := Nat.dvd_of_mod_eq_zero h
  have h2 : Nat.Coprime 997 b := coprime997 b hb2 (by omega)
  have h3 := h2.dvd_of_dvd_mul_right h1
  have := Nat.le_of_dvd (by omega) h3
  omega
/-- The writer's heads are signed. -/
theorem hmake_check {s : Int} {l : List Int} (hk : key s = true) (hl : leavesOk l = true) : hcheck (hpub s) (hmake s l).1 = true := by
  have hp := hpub_key hk
  have ht := treeD_dig hl
  have hb := pair_bd l.length (treeD l)
  obtain ⟨k1, k2⟩ := key_true.1 hk
  have e : (hmake s l).1 = ⟨l.length, treeD l, s * (pair l.length (treeD l) + 1) % 997⟩ := by unfold hmake; rw [hk, hl]; rfl
  rw [e]
  unfold hcheck
  generalize pair l.length (treeD l) = m at *
  rw [hp, ht]
  simp only [Bool.true_and, Bool.and_true]
  have h1 : inB (l.length : Int) 0 16 = true := inB_true.2 (by have := (leavesOk_true.1 hl).1; omega)
  rw [h1]
  have h2 : key (s * (m + 1) % 997) = true := by
    rw [key_true]
    obtain ⟨a, rfl⟩ : ∃ a : Nat, s = a := ⟨s.toNat, by omega⟩
    obtain ⟨b, hb'⟩ : ∃ b : Nat, m + 1 = b := ⟨(m + 1).toNat, by omega⟩
    rw [hb']
    have := mul_ne (a := a) (b := b) (by omega) (by omega) (by omega) (by omega)
    have e2 : (a : Int) * (b : Int) % 997 = ((a * b % 997 : Nat) : Int) := by simp
    rw [e2]
    omega
  rw [h2]
  simp only [Bool.true_and, beq_iff_eq]
  unfold hpub
  rw [if_pos hk, Int.mul_emod (s * (m + 1) % 997) 5, Int.emod_emod_of_dvd _ (Int.dvd_refl _), ← Int.mul_emod, Int.mul_emod (s * 5 % 997), Int.emod_emod_of_dvd _ (Int.dvd_refl _), ← Int.mul_emod]
  congr 1
  rw [Int.mul_assoc, Int.mul_assoc, Int.mul_comm (m + 1) 5]
theorem hmake_len {s : Int} {l : List Int} (hk : key s = true) (hl : leavesOk l = true) : (hmake s l).1.len = l.length ∧ (hmake s l).1.dg = treeD l := by
  unfold hmake; rw [hk, hl]; exact ⟨rfl, rfl⟩
theorem blocksOk_push {t : ByteArray} (ht : t.size ≤ 8) : ∀ {bl : List ByteArray} {hv : List Bool}, bl.length = hv.length → blocksOk bl hv = true → blocksOk (bl ++ [t]) (hv ++ [true]) = true
  | [], [], _, _ => by simp [blocksOk, blockOk, ht]
  | s :: bl, b :: hv, hl, h => by
    simp only [blocksOk, Bool.and_eq_true, List.cons_append] at h ⊢
    exact ⟨h.1, blocksOk_push ht (by simpa using hl) h.2⟩
  | [], _ :: _, hl, _ => by simp at hl
  | _ :: _, [], hl, _ => by simp at hl
theorem lvs_push (bl : List ByteArray) (t : ByteArray) {n : Nat} (hn : n ≤ bl.length) : (lvs (bl ++ [t])).take n = (lvs bl).take n := by
  unfold lvs; rw [List.map_append, List.take_append_of_le_length (by simpa using hn)]
theorem getD_push {α : Type} {l : List α} {t d : α} {i : Nat} (h : i < l.length) : (l ++ [t]).getD i d = l.getD i d := by
  rw [List.getD_eq_getElem?_getD, List.getD_eq_getElem?_getD, List.getElem?_append_left h]
theorem leaves16 {bl : List ByteArray} (h : bl.length ≤ 16) : leavesOk (lvs bl) = true := leavesOk_true.2 ⟨by rw [lvs_len]; exact h, lvs_dig _⟩
theorem leaves16_take {bl : List ByteArray} (h : bl.length ≤ 16) (n : Nat) : leavesOk ((lvs bl).take n) = true := leavesOk_true.2 ⟨by rw [List.length_take, lvs_len]; omega, digs_take (lvs_dig _) _⟩

theorem wAsk_win {l : List (Int × Int)} {a : Int × Int} {en : Bool} (hl : windowOk l = true) (h : (wAsk l a en).2 = true) : windowOk (wAsk l a en).1 = true := by
  unfold wAsk at h ⊢
  by_cases hw : (windowOk l && askOk a) = true
  · rw [if_pos hw] at h ⊢
    by_cases hn : (hasA l a || decide (3 ≤ cntP l a.1) || decide ((if en = true then 2 else 1) ≤ cntB l a.2)) = true
    · rw [if_pos hn] at h; cases h
    · rw [if_neg hn]
      simp only [Bool.or_eq_true, decide_eq_true_eq, not_or, Bool.not_eq_true] at hn
      rw [Bool.and_eq_true] at hw
      refine windowOk_iff.2 ((windowOk_iff.1 hl).push hw.2 (fun hm => ?_) (by omega) ?_)
      · rw [hasA_iff.2 hm] at hn; exact absurd hn.1.1 (by simp)
      · have := hn.2
        split at this <;> omega
  · rw [if_neg hw] at h; cases h
section
variable {x : Wd}
theorem WV.f0_ (h : WV x) : x.f0 = x.feeds[0]'(by have := (setOk_true h.set).2.1; omega) := getD_lt (by have := (setOk_true h.set).2.1; omega) _
theorem WV.key (h : WV x) : key x.sec = true := (setOk_true h.set).1
theorem WV.pub (h : WV x) : x.f0.pub = hpub x.sec := h.wi.pub
theorem WV.more (h : WV x) {t : ByteArray} (ht : t.size ≤ 8) (hb : x.f0.bl.length < 16) : fvalid (x.f0.more x.sec t) = true ∧ wholeB (x.f0.more x.sec t).hv = true ∧ (x.f0.more x.sec t).hd.len = x.f0.hd.len + 1 := by
  obtain ⟨l1, l2, l3⟩ := fvalid_len h.v0
  have hl : leavesOk (lvs (x.f0.bl ++ [t])) = true := leaves16 (by simp; omega)
  obtain ⟨m1, m2⟩ := hmake_len h.key hl
  have hc := hmake_check h.key hl
  rw [lvs_len, List.length_append] at m1
  simp only [List.length_cons, List.length_nil] at m1
  have hw : wholeB (x.f0.hv ++ [true]) = true := all_wholeB (by simp; omega) fun j hj => by
    simp only [List.length_append, List.length_cons, List.length_nil] at hj
    by_cases hj' : j < x.f0.hv.length
    · rw [List.getElem?_append_left hj']; exact wholeB_all h.wh j hj'
    · have : j = x.f0.hv.length := by omega
      subst this; simp
  have hv := h.v0
  refine ⟨?_, hw, by show (hmake x.sec (lvs (x.f0.bl ++ [t]))).1.len = _; rw [m1]; omega⟩
  simp only [fvalid, Bool.and_eq_true, beq_iff_eq] at hv
  obtain ⟨⟨⟨⟨⟨v1, v2⟩, v3⟩, v4⟩, v5⟩, v6⟩ := hv
  simp only [fvalid, Bool.and_eq_true, beq_iff_eq, Fd.more]
  refine ⟨⟨⟨⟨⟨v1, by rw [h.pub, hc, Bool.or_true]⟩, by rw [m1]; simp⟩, by rw [m1]; simp; omega⟩, blocksOk_push ht l1 v5⟩, ?_⟩
  rw [m2]; simp
/-- A feed that agrees with the writer's agrees with the grown one. -/
theorem FdOk.more {sec : Int} {f0 f : Fd} {t : ByteArray} (h : FdOk sec f0 f) (hv : fvalid f0 = true) (hl : (f0.more sec t).hd.len = f0.hd.len + 1) : FdOk sec (f0.more sec t) f := by
  obtain ⟨l1, l2, l3⟩ := fvalid_len hv
  obtain ⟨k1, k2, k3⟩ := fvalid_len h.v
  have hle := h.le
  refine ⟨h.v, h.pub, by omega, ?_, fun i hi hh => ?_⟩
  · rcases h.hd with h0 | h0
    · exact .inl h0
    · refine .inr ?_
      show f.hd = (hmake sec ((lvs (f0.bl ++ [t])).take f.hd.len.toNat)).1
      rw [lvs_push _ _ (by omega)]; exact h0
  · rw [h.bl i hi hh]
    show _ = textD ((f0.bl ++ [t]).getD i ⟨#[]⟩).data.toList
    rw [getD_push (by omega)]
theorem pieceOk_more {n : Nat} {sec : Int} {f0 : Fd} {p : Pc} {t : ByteArray} (h : pieceOk n f0 p = true) (hv : fvalid f0 = true) (hl : (f0.more sec t).hd.len = f0.hd.len + 1) : pieceOk n (f0.more sec t) p = true := by
  obtain ⟨l1, l2, l3⟩ := fvalid_len hv
  obtain ⟨p1, p2, p3, p4, p5, p6⟩ := pieceOk_iff.1 h
  have p3' := inB_true.1 p3
  refine pieceOk_iff.2 ⟨p1, p2, inB_true.2 (by omega), p4, p5, ?_⟩
  show p.prf = proofOf ((lvs (f0.bl ++ [t])).take p.len.toNat) p.idx
  rw [lvs_push _ _ (by omega)]; exact p6
theorem WV.grow (h : WV x) (t : ByteArray) : WV (wgrow x t) := by
  unfold wgrow
  split
  · exact h
  · rename_i hc
    have h1 : t.size ≤ 8 := by omega
    have h2 : x.f0.bl.length < 16 := by omega
    obtain ⟨m1, m2, m3⟩ := h.more h1 h2
    have hn := (setOk_true h.set).2.1
    have e0 : (⟨x.sec, x.bad, x.feeds.set 0 (x.f0.more x.sec t), x.links, x.asked, x.net⟩ : Wd).f0 = x.f0.more x.sec t := by
      unfold Wd.f0; rw [getD_lt (by simp; omega)]; simp
    refine ⟨by simpa using h.set, by rw [e0]; exact m1, by rw [e0]; exact m2, by simpa using h.ln, by simpa using h.na, h.nn, fun j hj => ?_, h.wd, fun j hj => ?_⟩
    · rw [e0]
      simp only [List.length_set] at hj
      by_cases h0 : j = 0
      · subst h0
        simp only [List.getElem_set_self]
        refine ⟨m1, by show x.f0.pub = _; exact h.pub, Int.le_refl _, .inr ?_, fun i hi hh => rfl⟩
        show (hmake x.sec (lvs (x.f0.bl ++ [t]))).1 = (hmake x.sec ((lvs (x.f0.bl ++ [t])).take (x.f0.more x.sec t).hd.len.toNat)).1
        have := (fvalid_len m1).2.2
        rw [List.take_of_length_le]
        rw [lvs_len]
        show (x.f0.more x.sec t).bl.length ≤ _
        omega
      · simp only [List.getElem_set_ne (Ne.symm h0)]
        exact (h.fd j hj).more h.v0 m3
    · rw [e0]
      simp only [List.length_set]
      exact pieceOk_more (h.pc j hj) h.v0 m3
theorem WV.turn (h : WV x) (a b : Int) (up : Bool) : WV (wturn x a b up) := by
  unfold wturn
  split
  · rename_i hc
    unfold turnMay at hc
    simp only [Bool.and_eq_true] at hc
    obtain ⟨⟨⟨c1, c2⟩, c3⟩, c4⟩ := hc
    obtain ⟨g1, g2⟩ := linksOk_iff.1 h.ln
    have hkey : linkOk x.feeds.length (linkKey a b) = true := by
      unfold linkOk
      have c1' : (linkKey a b).1 ≠ (linkKey a b).2 := by simpa using c1
      have c2' := inB_true.1 c2
      have c3' := inB_true.1 c3
      have : (linkKey a b).1 ≤ (linkKey a b).2 := by unfold linkKey; simp only; omega
      rw [Bool.and_eq_true, inB_true, inB_true]
      omega
    have hl : linksOk x.feeds.length (turnL x.links (linkKey a b) up) = true := by
      rw [linksOk_iff]
      cases up
      · rw [turnL_down]
        exact ⟨fun y hy => g1 y (List.mem_filter.1 hy).1, g2.sublist List.filter_sublist⟩
      · have hn : linkKey a b ∉ x.links := fun hm => by
          have : linked x a b = true := hasA_iff.2 hm
          rw [this] at c4; cases c4
        rw [turnL_up (fun y hy => by
          have := g1 y hy
          unfold linkOk at this
          rw [Bool.and_eq_true, inB_true] at this
          exact this.1.1) hn]
        refine ⟨fun y hy => ?_, insL_sorted hn g2⟩
        rcases insL_mem.1 hy with hy | rfl
        · exact g1 y hy
        · exact hkey
    exact ⟨h.set, h.v0, h.wh, hl, h.na, h.nn, h.fd, h.wd, h.pc⟩
  · exact h
theorem f0_set {x : Wd} {j : Nat} {f : Fd} {k : List (List (Int × Int))} (hj : j ≠ 0) : (⟨x.sec, x.bad, x.feeds.set j f, x.links, k, x.net⟩ : Wd).f0 = x.f0 := by
  unfold Wd.f0; rw [List.getD_eq_getElem?_getD, List.getD_eq_getElem?_getD, List.getElem?_set_ne hj]
theorem WV.setF (h : WV x) {j : Nat} {f : Fd} (hj : j ≠ 0) (hf : FdOk x.sec x.f0 f) : WV { x with feeds := x.feeds.set j f } := by
  have e0 : ({ x with feeds := x.feeds.set j f } : Wd).f0 = x.f0 := f0_set hj
  refine ⟨by simpa using h.set, by rw [e0]; exact h.v0, by rw [e0]; exact h.wh, by simpa using h.ln, by simpa using h.na, h.nn, fun i hi => ?_, h.wd, fun i hi => ?_⟩
  · rw [e0]
    simp only [List.length_set] at hi
    by_cases hij : i = j
    · subst hij; simpa using hf
    · simp only [List.getElem_set_ne (Ne.symm hij)]; exact h.fd i hi
  · rw [e0]; simpa using h.pc i hi
theorem WV.setA (h : WV x) {j : Nat} {l : List (Int × Int)} (hl : windowOk l = true) : WV { x with asked := x.asked.set j l } := by
  refine ⟨h.set, h.v0, h.wh, h.ln, by simpa using h.na, h.nn, h.fd, fun i hi => ?_, h.pc⟩
  simp only [List.length_set] at hi
  by_cases hij : i = j
  · subst hij; simpa using hl
  · simp only [List.getElem_set_ne (Ne.symm hij)]; exact h.wd i hi
theorem grow_ok {sec : Int} {f0 f g : Fd} {l : List Int} (hg : FdOk sec f0 g) (hf : FdOk sec f0 f) (h0 : hcode f g.hd l = 0) : FdOk sec f0 (f.grow g.hd) := by
  obtain ⟨c1, c2, c3, _⟩ := hcode_done h0
  obtain ⟨k1, k2, k3⟩ := fvalid_len hf.v
  refine ⟨grow_valid hf.v h0, hf.pub, hg.le, hg.hd, fun i hi hh => ?_⟩
  by_cases h1 : i < f.bl.length
  · have e1 : (f.grow g.hd).hv.getD i false = f.hv.getD i false := by
      unfold Fd.grow; simp only; rw [List.getD_eq_getElem?_getD, List.getD_eq_getElem?_getD, List.getElem?_append_left (by omega)]
    have e2 : (f.grow g.hd).bl.getD i ⟨#[]⟩ = f.bl.getD i ⟨#[]⟩ := by
      unfold Fd.grow; simp only; rw [List.getD_eq_getElem?_getD, List.getD_eq_getElem?_getD, List.getElem?_append_left h1]
    rw [e1] at hh
    rw [e2]
    exact hf.bl i h1 hh
  · exfalso
    unfold Fd.grow at hh
    simp only at hh
    rw [List.getD_eq_getElem?_getD, List.getElem?_append_right (by omega), List.getElem?_replicate] at hh
    split at hh <;> simp at hh
theorem WV.fd_ (h : WV x) {a b : Int} (hl : linked x a b = true) : ∃ i j : Nat, a = i ∧ b = j ∧ ∃ (hi : i < x.feeds.length) (hj : j < x.feeds.length), x.feed a = x.feeds[i] ∧ x.feed b = x.feeds[j] := by
  obtain ⟨i, j, rfl, rfl, hi, hj⟩ := h.wi.lk hl
  exact ⟨i, j, rfl, rfl, hi, hj, h.wi.fd hi, h.wi.fd hj⟩
theorem WV.head (h : WV x) (a b : Int) : WV (whead x a b) := by
  unfold whead
  split
  · rename_i hc
    simp only [Bool.and_eq_true, beq_iff_eq] at hc
    obtain ⟨c1, c2⟩ := hc
    unfold headMay at c1
    simp only [Bool.and_eq_true, decide_eq_true_eq] at c1
    obtain ⟨i, j, rfl, rfl, hi, hj, ea, eb⟩ := h.fd_ c1.1
    have c3 := c1.2
    unfold headTry at c2 ⊢
    rw [ea, eb] at c2 c3 ⊢
    rw [Int.toNat_natCast]
    have hv := (h.fd j hj).v
    have h0 : hcode x.feeds[j] x.feeds[i].hd (growOf ((lvs x.f0.bl).take x.feeds[i].hd.len.toNat) x.feeds[j].hd.len) = 0 := by
      have := c2; unfold fhead at this; rw [hv] at this; exact this
    rw [fhead_done hv h0]
    refine h.setF (fun e => ?_) (grow_ok (h.fd i hi) (h.fd j hj) h0)
    subst e
    have := (h.fd i hi).le
    rw [h.f0_] at this
    omega
  · exact h
theorem WV.ask (h : WV x) (a b c : Int) : WV (wask x a b c) := by
  unfold wask
  split
  · rename_i hc
    rw [Bool.and_eq_true] at hc
    have hw : windowOk (x.asks a) = true := by
      unfold Wd.asks
      by_cases ha : a.toNat < x.asked.length
      · rw [getD_lt ha]; exact h.wd _ ha
      · rw [List.getD_eq_getElem?_getD, List.getElem?_eq_none (by omega)]; rfl
    exact h.setA (wAsk_win hw hc.2)
  · exact h
theorem hasB_true {f : Fd} {c : Int} (h : hasB f c = true) : ∃ k : Nat, c = k ∧ k < f.hv.length ∧ f.hv.getD k false = true := by
  unfold hasB at h
  rw [Bool.and_eq_true, inB_true] at h
  exact ⟨c.toNat, by omega, by omega, h.2⟩
theorem WV.answer (h : WV x) (a b c : Int) (t : ByteArray) : WV (wanswer x a b c t) := by
  unfold wanswer
  split
  · rename_i hc
    simp only [Bool.and_eq_true, decide_eq_true_eq] at hc
    obtain ⟨c1, c2⟩ := hc
    unfold ansMay at c1
    simp only [Bool.and_eq_true, decide_eq_true_eq] at c1
    obtain ⟨⟨⟨d1, d2⟩, d3⟩, d4⟩ := c1
    obtain ⟨i, j, rfl, rfl, hi, hj, ea, eb⟩ := h.fd_ d1
    obtain ⟨k, rfl, k1, k2⟩ := hasB_true d3
    rw [eb] at k1 k2 ⊢
    obtain ⟨l1, l2, l3⟩ := fvalid_len (h.fd j hj).v
    have hle := (h.fd j hj).le
    refine ⟨h.set, h.v0, h.wh, h.ln, h.na, by simp; omega, h.fd, h.wd, fun m hm => ?_⟩
    by_cases hm' : m < x.net.length
    · have := h.pc m hm'
      show pieceOk x.feeds.length x.f0 _ = true
      simp only [List.getElem_append_left hm']
      exact this
    · have hm2 : m = x.net.length := by
        simp only [List.length_append, List.length_cons, List.length_nil] at hm; omega
      subst hm2
      show pieceOk x.feeds.length x.f0 _ = true
      simp only [List.getElem_concat_length]
      exact pieceOk_iff.2 ⟨inB_true.2 (by dsimp only; omega), inB_true.2 (by dsimp only; omega), inB_true.2 (by dsimp only; omega), inB_true.2 (by dsimp only; omega), c2, rfl⟩
  · exact h
theorem put_ok {sec : Int} {n : Nat} {f0 f : Fd} {p : Pc} (h0 : fvalid f0 = true) (hw : wholeB f0.hv = true) (hk : key sec = true) (hp : pieceOk n f0 p = true) (hf : FdOk sec f0 f) (hl : f.hd.len = p.len) (h : (fput f p.idx p.txt p.prf).2 = true) :
    FdOk sec f0 (fput f p.idx p.txt p.prf).1 ∧ textD p.txt.data.toList = textD (f0.bl.getD p.idx.toNat ⟨#[]⟩).data.toList := by
  obtain ⟨t1, t2, t3, t4, t5⟩ := fput_true h
  rw [t5]
  obtain ⟨l1, l2, l3⟩ := fvalid_len h0
  obtain ⟨k1, k2, k3⟩ := fvalid_len hf.v
  obtain ⟨p1, p2, p3, p4, p5, p6⟩ := pieceOk_iff.1 hp
  have hle := hf.le
  have p3' := inB_true.1 p3
  have p4' := inB_true.1 p4
  unfold fputMay at t3
  simp only [Bool.and_eq_true, Bool.not_eq_true'] at t3
  obtain ⟨⟨u1, u2⟩, u3⟩ := t3
  have hd : f.hd = (hmake sec ((lvs f0.bl).take f.hd.len.toNat)).1 := by
    rcases hf.hd with h1 | h1
    · omega
    · exact h1
  obtain ⟨m1, m2⟩ := hmake_len hk (leaves16_take l2 f.hd.len.toNat)
  have hdg : f.hd.dg = treeD ((lvs f0.bl).take f.hd.len.toNat) := by rw [← m2, ← hd]
  have hlt : p.idx.toNat < f0.bl.length := by omega
  have hlen : ((lvs f0.bl).take p.len.toNat).length = p.len.toNat := by rw [List.length_take, lvs_len]; omega
  have hg : ((lvs f0.bl).take p.len.toNat).getD p.idx.toNat 0 = textD (f0.bl.getD p.idx.toNat ⟨#[]⟩).data.toList := by
    rw [List.getD_eq_getElem?_getD, List.getElem?_take_of_lt (by omega), ← List.getD_eq_getElem?_getD, lvs_get hlt, getD_lt hlt]
  have hck := check_proofOf (l := (lvs f0.bl).take p.len.toNat) (i := p.idx) (leaves16_take l2 _) (by rw [hlen]; exact inB_true.2 (by omega)) (by rw [hg]; exact textD_dig _) (proofOf_dig _)
  rw [hlen, hg, ← p6] at hck
  rw [hdg, hl] at u3
  rw [show ((p.len.toNat : Nat) : Int) = p.len by omega] at hck
  have htx := check_one u3 hck
  refine ⟨⟨t4, hf.pub, hf.le, hf.hd, fun i hi hh => ?_⟩, htx⟩
  unfold Fd.put at hi hh ⊢
  simp only [List.length_set] at hi
  by_cases hie : i = p.idx.toNat
  · subst hie
    simp only [List.getD_eq_getElem?_getD, List.getElem?_set_self hi, Option.getD_some]
    rw [← List.getD_eq_getElem?_getD]
    exact htx
  · simp only [List.getD_eq_getElem?_getD, List.getElem?_set_ne (Ne.symm hie)] at hh ⊢
    simp only [← List.getD_eq_getElem?_getD] at hh ⊢
    exact hf.bl i hi hh
theorem wGot_ok {l : List (Int × Int)} (h : windowOk l = true) (a : Int × Int) : windowOk (wGot l a) = true := by
  unfold wGot
  split
  · split
    · exact windowOk_iff.2 ((windowOk_iff.1 h).sub List.filter_sublist)
    · exact h
  · exact windowOk_iff.2 WinOk.nil
theorem wDrop_ok {l : List (Int × Int)} (h : windowOk l = true) (p : Int) : windowOk (wDrop l p) = true := by
  unfold wDrop
  split
  · exact windowOk_iff.2 ((windowOk_iff.1 h).sub List.filter_sublist)
  · exact windowOk_iff.2 WinOk.nil
/-- A piece that is stored is not the writer's. -/
theorem put_not0 {f : Fd} {i : Int} {t : ByteArray} {p : List Int} (hv : fvalid f = true) (hw : wholeB f.hv = true) (h : (fput f i t p).2 = true) : False := by
  obtain ⟨t1, t2, t3, t4, t5⟩ := fput_true h
  unfold fputMay at t3
  simp only [Bool.and_eq_true, Bool.not_eq_true'] at t3
  obtain ⟨⟨u1, u2⟩, u3⟩ := t3
  have := inB_true.1 u1
  have h2 := wholeB_all hw i.toNat (by have := (fvalid_len hv).1; omega)
  rw [List.getD_eq_getElem?_getD, h2] at u2
  cases u2
theorem WV.store (h : WV x) {p : Pc} (hp : pieceOk x.feeds.length x.f0 p = true) : WV (wstore x p) := by
  obtain ⟨p1, p2, p3, p4, p5, p6⟩ := pieceOk_iff.1 hp
  have p2' := inB_true.1 p2
  obtain ⟨j, hj⟩ : ∃ j : Nat, p.to_ = j := ⟨p.to_.toNat, by omega⟩
  have hjl : j < x.feeds.length := by omega
  have ef : x.feed p.to_ = x.feeds[j] := by rw [hj]; exact h.wi.fd hjl
  have ea : x.asks p.to_ = x.asked[j]'(by rw [h.na]; exact hjl) := by rw [hj]; exact h.wi.as_ hjl
  have hwin := h.wd j (by rw [h.na]; exact hjl)
  unfold wstore
  split
  · exact h
  · rename_i hc
    rw [Bool.not_eq_true, Bool.or_eq_false_iff] at hc
    have hl : x.feeds[j].hd.len = p.len := by
      have := hc.2; rw [ef] at this; simpa using this
    split
    · rename_i hput
      rw [ef] at hput
      obtain ⟨q1, _⟩ := put_ok h.v0 h.wh h.key hp (h.fd j hjl) hl hput
      have hj0 : j ≠ 0 := fun e => by
        subst e
        rw [← h.f0_] at hput
        exact put_not0 h.v0 h.wh hput
      have h2 := (h.setF (j := j) hj0 q1).setA (j := j) (wGot_ok hwin (p.fr, p.idx))
      rw [ef, ea, hj, Int.toNat_natCast]
      exact h2
    · rw [ea, hj, Int.toNat_natCast]
      exact h.setA (wDrop_ok hwin p.fr)
theorem WV.erase (h : WV x) (k : Nat) : WV { x with net := x.net.eraseIdx k } := by
  refine ⟨h.set, h.v0, h.wh, h.ln, h.na, by have := h.nn; have := List.length_eraseIdx_le x.net k; show (x.net.eraseIdx k).length ≤ 12; omega, h.fd, h.wd, fun j hj => ?_⟩
  have hm : (x.net.eraseIdx k)[j] ∈ x.net := (List.eraseIdx_sublist x.net k).subset (List.getElem_mem hj)
  obtain ⟨i, hi, he⟩ := List.mem_iff_getElem.1 hm
  show pieceOk x.feeds.length x.f0 (x.net.eraseIdx k)[j] = true
  rw [← he]
  exact h.pc i hi
theorem WV.net_ (h : WV x) (k : Int) (lost : Bool) : WV (wnet x k lost) := by
  unfold wnet
  split
  · rename_i hc
    have hc' := inB_true.1 hc
    have he := h.erase k.toNat
    split
    · exact he
    · refine he.store ?_
      have hk : k.toNat < x.net.length := by omega
      rw [getD_lt hk]
      exact h.pc _ hk
  · exact h
theorem WV.do_ (h : WV x) (e : Ev) : WV (wdo x e) := by
  unfold wdo
  repeat' split
  · exact h.grow _
  · exact h.turn _ _ _
  · exact h.turn _ _ _
  · exact h.head _ _
  · exact h.ask _ _ _
  · exact h.answer _ _ _ _
  · exact h.net_ _ _
  · exact h.net_ _ _
  · exact h
end
end Go.Proofs.YtcplnfmcefkehaaGreat
namespace Go.Proofs.YtcplnfmcefkehaaGreat

/-- The blocks of a feed that has them all are the writer's. -/
theorem lvs_full {f0 f : Fd} {n : Nat} (hn : f.bl.length = n) (hl : n ≤ f0.bl.length) (h : ∀ i, i < n → textD (f.bl.getD i ⟨#[]⟩).data.toList = textD (f0.bl.getD i ⟨#[]⟩).data.toList) : lvs f.bl = (lvs f0.bl).take n := by
  refine List.ext_getElem (by rw [lvs_len, List.length_take, lvs_len]; omega) fun i h1 h2 => ?_
  rw [lvs_len] at h1
  have e := h i (by omega)
  rw [getD_lt (by omega), getD_lt (by omega)] at e
  have e1 : (lvs f.bl)[i]'(by rw [lvs_len]; omega) = textD f.bl[i].data.toList := by simp [lvs]
  have e2 : ((lvs f0.bl).take n)[i]'h2 = textD f0.bl[i].data.toList := by rw [List.getElem_take]; simp [lvs]
  rw [e1, e2]; exact e
theorem blocksOk_get : ∀ {bl : List ByteArray} {hv : List Bool}, blocksOk bl hv = true → ∀ {j : Nat} {s b}, bl[j]? = some s → hv[j]? = some b → blockOk s b = true
  | [], _, _, j, s, b, h1, _ => by simp at h1
  | _ :: _, [], _, j, s, b, _, h2 => by simp at h2
  | t :: bl, c :: hv, h, 0, s, b, h1, h2 => by
    simp only [blocksOk, Bool.and_eq_true] at h
    simp at h1 h2; subst h1; subst h2; exact h.1
  | t :: bl, c :: hv, h, j + 1, s, b, h1, h2 => by
    simp only [blocksOk, Bool.and_eq_true] at h
    exact blocksOk_get h.2 (j := j) (by simpa using h1) (by simpa using h2)
/-- A block of the writer's can be put. -/
theorem put_calm {sec : Int} {f0 f : Fd} {k : Nat} {t : ByteArray} (h0 : fvalid f0 = true) (hk : key sec = true) (hf : FdOk sec f0 f) (hkl : k < f.bl.length) (hn : f.hv.getD k false = false) (ht : t.size ≤ 8)
    (htx : textD t.data.toList = textD (f0.bl.getD k ⟨#[]⟩).data.toList) :
    fput f k t (proofOf ((lvs f0.bl).take f.hd.len.toNat) k) = (f.put k t, true) ∧ FdOk sec f0 (f.put k t) := by
  obtain ⟨l1, l2, l3⟩ := fvalid_len h0
  obtain ⟨k1, k2, k3⟩ := fvalid_len hf.v
  have hle := hf.le
  have hd : f.hd = (hmake sec ((lvs f0.bl).take f.hd.len.toNat)).1 := by
    rcases hf.hd with h1 | h1
    · omega
    · exact h1
  obtain ⟨m1, m2⟩ := hmake_len hk (leaves16_take l2 f.hd.len.toNat)
  have hdg : f.hd.dg = treeD ((lvs f0.bl).take f.hd.len.toNat) := by rw [← m2, ← hd]
  have hlt : k < f0.bl.length := by omega
  have hlen : ((lvs f0.bl).take f.hd.len.toNat).length = f.hd.len.toNat := by rw [List.length_take, lvs_len]; omega
  have hg : ((lvs f0.bl).take f.hd.len.toNat).getD k 0 = textD (f0.bl.getD k ⟨#[]⟩).data.toList := by
    rw [List.getD_eq_getElem?_getD, List.getElem?_take_of_lt (by omega), ← List.getD_eq_getElem?_getD, lvs_get hlt, getD_lt hlt]
  have hck := check_proofOf (l := (lvs f0.bl).take f.hd.len.toNat) (i := (k : Int)) (leaves16_take l2 _) (by rw [hlen]; exact inB_true.2 (by omega)) (by rw [Int.toNat_natCast, hg]; exact textD_dig _) (proofOf_dig _)
  rw [hlen, Int.toNat_natCast, hg, ← htx, ← hdg, show ((f.hd.len.toNat : Nat) : Int) = f.hd.len by omega] at hck
  have hmay : fputMay f k t (proofOf ((lvs f0.bl).take f.hd.len.toNat) k) = true := by
    unfold fputMay
    rw [hck, Int.toNat_natCast, hn, inB_true.2 (by omega)]; rfl
  have hbl : ∀ i, i < f.bl.length → (f.put k t).hv.getD i false = true → textD ((f.put k t).bl.getD i ⟨#[]⟩).data.toList = textD (f0.bl.getD i ⟨#[]⟩).data.toList := fun i hi hh => by
    unfold Fd.put at hh ⊢
    by_cases hie : i = k
    · subst hie
      simp only [List.getD_eq_getElem?_getD, List.getElem?_set_self hi, Option.getD_some]
      rw [← List.getD_eq_getElem?_getD]; exact htx
    · simp only [List.getD_eq_getElem?_getD, List.getElem?_set_ne (Ne.symm hie)] at hh ⊢
      simp only [← List.getD_eq_getElem?_getD] at hh ⊢
      exact hf.bl i hi hh
  have hv := hf.v
  simp only [fvalid, Bool.and_eq_true, beq_iff_eq] at hv
  obtain ⟨⟨⟨⟨⟨v1, v2⟩, v3⟩, v4⟩, v5⟩, v6⟩ := hv
  have hbo : blocksOk (f.put k t).bl (f.put k t).hv = true := by
    refine blocksOk_of fun j s b e1 e2 => ?_
    unfold Fd.put at e1 e2
    simp only at e1 e2
    by_cases hjk : k = j
    · subst hjk
      rw [List.getElem?_set_self (by omega)] at e1 e2
      cases e1; cases e2
      simp [blockOk, ht]
    · rw [List.getElem?_set_ne hjk] at e1 e2
      exact blocksOk_get v5 e1 e2
  have hval : fvalid (f.put k t) = true := by
    simp only [fvalid, Bool.and_eq_true, beq_iff_eq]
    refine ⟨⟨⟨⟨⟨v1, v2⟩, ?_⟩, ?_⟩, hbo⟩, ?_⟩
    · show ((f.bl.set k t).length : Int) = _; rw [List.length_set]; exact v3
    · show ((f.hv.set k true).length : Int) = _; rw [List.length_set]; exact v4
    · by_cases hw : wholeB (f.put k t).hv = true
      · have hall := wholeB_all hw
        have e := lvs_full (f := f.put k t) (n := f.bl.length) (by show (f.bl.set k t).length = _; rw [List.length_set]) (by omega) (fun i hi => hbl i hi (by
          have := hall i (by show i < (f.hv.set k true).length; rw [List.length_set]; omega)
          rw [List.getD_eq_getElem?_getD, this]; rfl))
        rw [e, show f.bl.length = f.hd.len.toNat by omega]
        have : (f.put k t).hd.dg = f.hd.dg := rfl
        rw [this, hdg]; simp
      · simp [hw]
  refine ⟨?_, hval, hf.pub, hf.le, hf.hd, fun i hi hh => hbl i (by simpa [Fd.put] using hi) hh⟩
  unfold fput
  rw [hf.v, Int.toNat_natCast, if_pos (by simpa using ht), if_pos (by rw [hmay, hval]; rfl)]

/-- What giving to peer b keeps. -/
structure Gv (b : Nat) (x y : Wd) : Prop where
  sec : y.sec = x.sec
  bad : y.bad = x.bad
  links : y.links = x.links
  asked : y.asked = x.asked
  net : y.net = x.net
  n : y.feeds.length = x.feeds.length
  oth : ∀ j, j ≠ b → y.feeds.getD j Fd.none = x.feeds.getD j Fd.none
  f0 : y.f0 = x.f0
  wv : WV y
theorem Gv.refl (b : Nat) {x : Wd} (h : WV x) : Gv b x x := ⟨rfl, rfl, rfl, rfl, rfl, rfl, fun _ _ => rfl, rfl, h⟩
theorem Gv.trans {b : Nat} {x y z : Wd} (h : Gv b x y) (k : Gv b y z) : Gv b x z :=
  ⟨k.sec.trans h.sec, k.bad.trans h.bad, k.links.trans h.links, k.asked.trans h.asked, k.net.trans h.net, k.n.trans h.n, fun j hj => (k.oth j hj).trans (h.oth j hj), k.f0.trans h.f0, k.wv⟩
theorem getD_set_ne {l : List Fd} {i j : Nat} (h : j ≠ i) (f d : Fd) : (l.set i f).getD j d = l.getD j d := by
  rw [List.getD_eq_getElem?_getD, List.getD_eq_getElem?_getD, List.getElem?_set_ne (Ne.symm h)]
section
variable {x : Wd} {i j : Nat}
theorem WV.fdD (h : WV x) (hj : j < x.feeds.length) : FdOk x.sec x.f0 (x.feeds.getD j Fd.none) := by rw [getD_lt hj]; exact h.fd j hj
/-- The head of a peer is given. -/
theorem head_gv (h : WV x) (hi : i < x.feeds.length) (hj : j < x.feeds.length) (hL : linked x i j = true) : Gv j x (whead x i j) := by
  have hw := h.head i j
  unfold whead at hw ⊢
  split
  · rename_i hc
    rw [if_pos hc] at hw
    simp only [Bool.and_eq_true, beq_iff_eq] at hc
    have hc1 := hc.1
    unfold headMay at hc1
    simp only [Bool.and_eq_true, decide_eq_true_eq] at hc1
    have hj0 : j ≠ 0 := fun e => by
      subst e
      have := (h.fdD hi).le
      have c : (x.feeds.getD 0 Fd.none).hd.len < (x.feeds.getD i Fd.none).hd.len := hc1.2
      have e0 : x.feeds.getD 0 Fd.none = x.f0 := rfl
      rw [e0] at c
      omega
    simp only [Int.toNat_natCast] at hw ⊢
    exact ⟨rfl, rfl, rfl, rfl, rfl, by simp, fun m hm => getD_set_ne hm _ _, f0_set hj0, hw⟩
  · exact Gv.refl j h
/-- Heads of empty feeds are empty. -/
def NZ (x : Wd) : Prop := ∀ k, (x.feeds.getD k Fd.none).hd.len = 0 → (x.feeds.getD k Fd.none).hd = Hd.zero
theorem headTry_at : headTry x i j = fhead (x.feeds.getD j Fd.none) (x.feeds.getD i Fd.none).hd (growOf ((lvs x.f0.bl).take (x.feeds.getD i Fd.none).hd.len.toNat) (x.feeds.getD j Fd.none).hd.len) := rfl
theorem head_hd (h : WV x) (hj : j < x.feeds.length) : ((whead x i j).feeds.getD j Fd.none).hd = (x.feeds.getD j Fd.none).hd ∨ (((whead x i j).feeds.getD j Fd.none).hd = (x.feeds.getD i Fd.none).hd ∧ (x.feeds.getD j Fd.none).hd.len < (x.feeds.getD i Fd.none).hd.len) := by
  unfold whead
  split
  · rename_i hc
    rw [Bool.and_eq_true, beq_iff_eq] at hc
    obtain ⟨c1, c2⟩ := hc
    refine .inr ⟨?_, ?_⟩
    · show (x.feeds.set (j : Int).toNat (headTry x i j).1 |>.getD j Fd.none).hd = _
      rw [Int.toNat_natCast, List.getD_eq_getElem?_getD, List.getElem?_set_self hj, Option.getD_some]
      rw [headTry_at] at c2 ⊢
      have hv := (h.fdD hj).v
      have h0 : hcode (x.feeds.getD j Fd.none) (x.feeds.getD i Fd.none).hd (growOf ((lvs x.f0.bl).take (x.feeds.getD i Fd.none).hd.len.toNat) (x.feeds.getD j Fd.none).hd.len) = 0 := by
        unfold fhead at c2; rw [hv] at c2; exact c2
      rw [fhead_done hv h0]; rfl
    · unfold headMay at c1
      rw [Bool.and_eq_true, decide_eq_true_eq] at c1
      exact c1.2
  · exact .inl rfl
theorem WV.len0 (h : WV x) {k : Nat} : 0 ≤ (x.feeds.getD k Fd.none).hd.len := by
  by_cases hk : k < x.feeds.length
  · have := fvalid_len (h.fdD hk).v; omega
  · rw [List.getD_eq_getElem?_getD, List.getElem?_eq_none (by omega)]; decide
theorem NZ.head (h : WV x) (hz : NZ x) (hi : i < x.feeds.length) (hj : j < x.feeds.length) (hL : linked x i j = true) : NZ (whead x i j) := fun k hk => by
  have g := head_gv h hi hj hL
  by_cases hkj : k = j
  · subst hkj
    rcases head_hd (i := i) h hj with e | ⟨e, e2⟩
    · rw [e] at hk ⊢; exact hz k hk
    · rw [e] at hk
      have := h.len0 (k := k)
      omega
  · rw [g.oth k hkj] at hk ⊢; exact hz k hk
end
end Go.Proofs.YtcplnfmcefkehaaGreat
namespace Go.Proofs.YtcplnfmcefkehaaGreat
open Go.RowKit

/-- A new world. -/
def wnew (s b : Int) (n : Nat) : Wd := ⟨s, b, List.replicate n ⟨hpub s, Hd.zero, [], []⟩, [], List.replicate n [], []⟩
/-- What drawn worlds meet. -/
structure DW (x : Wd) : Prop where
  v : WV x
  z : NZ x
theorem fvalid_new {p : Int} (h : key p = true) : fvalid ⟨p, Hd.zero, [], []⟩ = true := by
  unfold fvalid; rw [h]; rfl
theorem wnew_dw {s b : Int} {n : Nat} (h : setOk s n b = true) : DW (wnew s b n) := by
  obtain ⟨h1, h2, h3, _, _⟩ := setOk_true h
  have hf0 : (wnew s b n).f0 = ⟨hpub s, Hd.zero, [], []⟩ := by
    unfold Wd.f0 wnew; simp only; rw [getD_lt (by simp; omega)]; simp
  refine ⟨⟨by simpa [wnew] using h, by rw [hf0]; exact fvalid_new (hpub_key h1), by rw [hf0]; rfl, rfl, by simp [wnew], Nat.zero_le _, fun j hj => ?_, fun j hj => ?_, fun j hj => absurd hj (Nat.not_lt_zero _)⟩, fun k hk => ?_⟩
  · rw [hf0]
    simp only [wnew, List.getElem_replicate]
    exact ⟨fvalid_new (hpub_key h1), rfl, Int.le_refl _, .inl rfl, fun i hi => absurd hi (Nat.not_lt_zero _)⟩
  · simp only [wnew, List.getElem_replicate]; rfl
  · unfold wnew
    simp only
    rw [List.getD_eq_getElem?_getD, List.getElem?_replicate]
    split <;> rfl
section
variable {x : Wd}
theorem NZ.set {j : Nat} {f : Fd} (h : NZ x) (hf : f.hd.len = 0 → f.hd = Hd.zero) : NZ { x with feeds := x.feeds.set j f } := fun k => by
  show ((x.feeds.set j f).getD k Fd.none).hd.len = 0 → ((x.feeds.set j f).getD k Fd.none).hd = Hd.zero
  by_cases hkj : k = j
  · subst hkj
    by_cases hk : k < x.feeds.length
    · rw [List.getD_eq_getElem?_getD, List.getElem?_set_self hk]; exact hf
    · rw [List.getD_eq_getElem?_getD, List.getElem?_eq_none (by simp; omega)]; intro _; rfl
  · rw [getD_set_ne hkj]; exact h k
theorem DW.grow (h : DW x) (t : ByteArray) : DW (wgrow x t) := by
  refine ⟨h.v.grow t, ?_⟩
  unfold wgrow
  split
  · exact h.z
  · rename_i hc
    obtain ⟨m1, m2, m3⟩ := h.v.more (t := t) (by omega) (by omega)
    have h0 := fvalid_len h.v.v0
    exact h.z.set fun e => by rw [m3] at e; omega
theorem DW.turn (h : DW x) (a b : Int) (up : Bool) : DW (wturn x a b up) := by
  refine ⟨h.v.turn a b up, ?_⟩
  unfold wturn
  split
  · exact h.z
  · exact h.z
theorem DW.head (h : DW x) (a b : Int) : DW (whead x a b) := by
  refine ⟨h.v.head a b, ?_⟩
  by_cases hc : headMay x a b = true
  · have hc' := hc
    unfold headMay at hc'
    rw [Bool.and_eq_true] at hc'
    obtain ⟨i, j, rfl, rfl, hi, hj, _, _⟩ := h.v.fd_ hc'.1
    exact h.z.head h.v hi hj hc'.1
  · unfold whead
    rw [if_neg (by rw [Bool.and_eq_true]; exact fun e => hc e.1)]
    exact h.z
theorem NZ.feed (h : NZ x) (a : Int) : (x.feed a).hd.len = 0 → (x.feed a).hd = Hd.zero := h a.toNat
theorem NZ.store (h : NZ x) (p : Pc) : NZ (wstore x p) := by
  unfold wstore
  split
  · exact h
  · split
    · rename_i hput
      obtain ⟨t1, t2, t3, t4, t5⟩ := fput_true hput
      rw [t5]
      exact h.set (x := x) (fun e => h.feed p.to_ e)
    · exact h
theorem DW.do_ (h : DW x) (e : Ev) : DW (wdo x e) := by
  refine ⟨h.v.do_ e, ?_⟩
  unfold wdo
  repeat' split
  · exact (h.grow _).z
  · exact (h.turn _ _ _).z
  · exact (h.turn _ _ _).z
  · exact (h.head _ _).z
  · unfold wask; split <;> exact h.z
  · unfold wanswer; split <;> exact h.z
  · unfold wnet; split
    · split
      · exact h.z
      · exact NZ.store (x := { x with net := x.net.eraseIdx e.a.toNat }) h.z _
    · exact h.z
  · unfold wnet; split
    · split
      · exact h.z
      · exact NZ.store (x := { x with net := x.net.eraseIdx e.a.toNat }) h.z _
    · exact h.z
  · exact h.z
end
theorem Em.sl_ {v : Value} (h : Em v) : ∃ A c, v = .slice A 0 c := by obtain ⟨A, c, h, _⟩ := h; exact ⟨A, c, h⟩
theorem Em.rp {v : Value} (h : Em v) (w : World) : RP w v [] := by
  obtain ⟨A, c, rfl, h1, h2⟩ := h
  exact ⟨A, c, rfl, ⟨Nat.zero_le _, h1⟩, h2, fun h => by simp at h⟩
theorem Em.pieces {v : Value} (h : Em v) (w : World) : PiecesR w v [] := by
  obtain ⟨A, c, rfl, h1, h2⟩ := h
  exact ⟨fun _ => .int .i64 0, ⟨A, c, rfl, ⟨Nat.zero_le _, h1⟩, h2, fun h => by simp at h⟩, fun j hj => by simp at hj⟩
theorem wnew_s {B : Nat} {w : World} {s b : Int} {n : Nat} {vF vL vA vN : Value} {F G : Nat → Value} (h1 : ON 6 B 59 w vF n F) (h2 : NewF (hpub s) n F) (h3 : ON 1 B 50 w vA n G) (h4 : EmsF n G) (h5 : Em vL) (h6 : Em vN) : WdS w (wnew s b n) vF vL vA vN := by
  intro w' hk
  refine ⟨h2.feeds (h1.keepT hk (by decide)).rn, h5.rp _, ⟨G, ?_, fun j hj => ?_⟩, h6.pieces _⟩
  · show RN 1 w' vA (List.replicate n ([] : List (Int × Int))).length G
    rw [List.length_replicate]; exact (h3.keepT hk (by decide)).rn
  · have hj' : j < n := by simpa [wnew] using hj
    simp only [wnew, List.getElem_replicate]
    exact (h4 j hj').rp _
end Go.Proofs.YtcplnfmcefkehaaGreat
namespace Go.Proofs.YtcplnfmcefkehaaGreat
open Go.RowKit
attribute [local go_sem ↓] Go.wp_at_zero Go.wp_at_succ

/-- What a call leaves: a new list of requests, and a flag. -/
def WAPost (r : List (Int × Int)) (ok : Bool) (w : World) (e : Ending) (w' : World) : Prop := ∃ v', e = .returned (.tuple #[v', .bool ok]) ∧ PairsC w.heap.size 118 w' v' r ∧ Below w.heap.size w w'
/-- The same with some number. -/
def WGPost (r : List (Int × Int)) (w : World) (e : Ending) (w' : World) : Prop := ∃ v' n, e = .returned (.tuple #[v', .int .i64 n]) ∧ PairsC w.heap.size 118 w' v' r ∧ Below w.heap.size w w'
theorem PairsC.below {B : Nat} {e : TypeId} {w w' : World} {v : Value} {l : List (Int × Int)} (h : PairsC B e w v l) (hb : Below w.heap.size w w') : PairsC B e w' v l := h.next (T := [e]) (Keep.of_below hb) (by simp)
theorem box2_cells {W : World} {q : Nat} {x0 x1 : Value} {t : TypeId} (h : W.heap[q]? = some (.cells #[x0, x1] t (0, 0))) : W.cell? ⟨q, 0, none⟩ = some x0 ∧ W.cell? ⟨q, 1, none⟩ = some x1 ∧ ∀ o, W.frozen? ⟨q, o, none⟩ = false :=
  ⟨cell_of_row _ _ 0 _ _ _ h, cell_of_row _ _ 1 _ _ _ h, fun o => by simp [World.frozen?, h]⟩
theorem PairsC.lt' {B : Nat} {e : TypeId} {w : World} {v : Value} {l : List (Int × Int)} (h : PairsC B e w v l) : ∀ k, v.ownBlock = some k → B ≤ k ∧ k < w.heap.size := by obtain ⟨F, h1, h2⟩ := h; exact h1.lt
theorem wAsk_bad {l : List (Int × Int)} {a : Int × Int} {en : Bool} (h : (windowOk l && askOk a) = false) : wAsk l a en = ([], false) := by unfold wAsk; rw [h]; rfl
theorem wAsk_ok {l : List (Int × Int)} {a : Int × Int} {en : Bool} (h : (windowOk l && askOk a) = true) : wAsk l a en = if hasA l a || decide (3 ≤ cntP l a.1) || decide ((if en then 2 else 1) ≤ cntB l a.2) then (l, false) else (l ++ [a], true) := by unfold wAsk; rw [h]; rfl
set_option maxHeartbeats 1600000 in
theorem WindowAsk_s (l : List (Int × Int)) (a : Int × Int) (en : Bool) (v : Value) (w : World) (hv : RP w v l) (hl : l.length ≤ 1000000) :
    Calls Tryz.prog 180 #[v, .agg #[.int .i64 a.1, .int .i64 a.2], .bool en] w (WAPost (wAsk l a en).1 (wAsk l a en).2 w) := by
  obtain ⟨W0, HW0⟩ : ∃ W0, Hid (w.alloc (.cells #[.int .i64 a.1, .int .i64 a.2] 118) = W0) := ⟨_, Lib.hid rfl⟩
  have HB0 : Hid (Below w.heap.size w W0) := Lib.hid (by rw [← HW0.out]; exact (Below.refl _ _).alloc (Nat.le_refl _) _)
  have hp : W0.heap[w.heap.size]? = some (.cells #[.int .i64 a.1, .int .i64 a.2] 118 (0, 0)) := by rw [← HW0.out]; exact heap_alloc_new w _
  have lp := (Array.getElem?_eq_some_iff.1 hp).1
  have HP := Lib.hid hp
  have HV0 : Hid (RP W0 v l) := Lib.hid (hv.below HB0.out)
  obtain ⟨A, c, rfl⟩ := hv.sl
  have HL := Lib.hid hl
  clear hv hp hl
  obtain ⟨b1, H1⟩ : ∃ b, Hid (windowOk l = b) := ⟨_, Lib.hid rfl⟩
  obtain ⟨b2, H2⟩ : ∃ b, Hid (askOk a = b) := ⟨_, Lib.hid rfl⟩
  have HBAD : Hid (∀ W, (b1 && b2) = false → Below w.heap.size w W → WAPost (wAsk l a en).1 (wAsk l a en).2 w (.returned (.tuple #[.slice (some ⟨W.heap.size, 0, none⟩) 0 0, .bool false])) (W.alloc (.cells #[] 118))) := Lib.hid (by
    intro W hb hB
    rw [wAsk_bad (by rw [H1.out, H2.out]; exact hb)]
    exact ⟨_, rfl, PairsC.empty (heap_alloc_new W _) hB.size, hB.alloc hB.size _⟩)
  obtain ⟨p0, p1, pf⟩ := box2_cells HP.out
  cases b1
  · go_enter Tryz.func180, Tryz.ntmps180
    go_wp2_with fail
    rw [HW0.out]
    go_wp2_with (go_at_call 44; refine (WindowValid_sb H1 _ _ HV0.out).mono ?_; rintro e w1 ⟨rfl, hb1⟩; have HB1 := Lib.hid (HB0.out.trans (hb1.mono HB0.out.size)); clear hb1)
    go_ret2
    exact HBAD.out _ rfl HB1.out
  cases b2
  · go_enter Tryz.func180, Tryz.ntmps180
    go_wp2_with fail
    rw [HW0.out]
    go_wp2_with (first
      | (go_at_call 44; refine (WindowValid_sb H1 _ _ HV0.out).mono ?_; rintro e w1 ⟨rfl, hb1⟩; obtain ⟨p0, p1, pf⟩ := box2_cells ((hb1.block _ lp).trans HP.out); have HB1 := Lib.hid (HB0.out.trans (hb1.mono HB0.out.size)); clear hb1)
      | (go_at_call 96; refine (l21Ask_b H2 _).mono ?_; rintro e w2 ⟨rfl, hb2⟩; have HB2 := Lib.hid (HB1.out.trans (hb2.mono HB1.out.size)); clear hb2))
    go_ret2
    exact HBAD.out _ rfl HB2.out
  clear HBAD
  obtain ⟨b3, H3⟩ : ∃ b, Hid (hasA l a = b) := ⟨_, Lib.hid rfl⟩
  obtain ⟨n4, H4⟩ : ∃ b, Hid (cntP l a.1 = b) := ⟨_, Lib.hid rfl⟩
  obtain ⟨n5, H5⟩ : ∃ b, Hid (cntB l a.2 = b) := ⟨_, Lib.hid rfl⟩
  have HR : Hid (wAsk l a en = if b3 || decide (3 ≤ n4) || decide ((if en then 2 else 1) ≤ n5) then (l, false) else (l ++ [a], true)) := Lib.hid (by rw [wAsk_ok (by rw [H1.out, H2.out]; rfl), H3.out, H4.out, H5.out])
  have HNO : Hid (∀ v' W, (b3 || decide (3 ≤ n4) || decide ((if en then 2 else 1) ≤ n5)) = true → PairsC w.heap.size 118 W v' l → Below w.heap.size w W → WAPost (wAsk l a en).1 (wAsk l a en).2 w (.returned (.tuple #[v', .bool false])) W) := Lib.hid (by
    intro v' W h1 h2 h3
    rw [HR.out, h1]
    exact ⟨_, rfl, h2, h3⟩)
  have HYES : Hid (∀ v' W, (b3 || decide (3 ≤ n4) || decide ((if en then 2 else 1) ≤ n5)) = false → PairsC w.heap.size 118 W v' (l ++ [a]) → Below w.heap.size w W → WAPost (wAsk l a en).1 (wAsk l a en).2 w (.returned (.tuple #[v', .bool true])) W) := Lib.hid (by
    intro v' W h1 h2 h3
    rw [HR.out, h1]
    exact ⟨_, rfl, h2, h3⟩)
  clear HR
  have HF : Hid (∀ x : Bool, (true || x) = true) := Lib.hid fun _ => rfl
  have hcase : (b3 = true ∧ Hid ((b3 || decide (3 ≤ n4) || decide ((if en then 2 else 1) ≤ n5)) = true)) ∨ (b3 = false ∧ (3 : Int) ≤ (n4 : Int) ∧ Hid ((b3 || decide (3 ≤ n4) || decide ((if en then 2 else 1) ≤ n5)) = true)) ∨
      (b3 = false ∧ ¬ (3 : Int) ≤ (n4 : Int) ∧ (if en then (2 : Int) else 1) ≤ (n5 : Int) ∧ Hid ((b3 || decide (3 ≤ n4) || decide ((if en then 2 else 1) ≤ n5)) = true)) ∨
      (b3 = false ∧ ¬ (3 : Int) ≤ (n4 : Int) ∧ ¬ (if en then (2 : Int) else 1) ≤ (n5 : Int) ∧ Hid ((b3 || decide (3 ≤ n4) || decide ((if en then 2 else 1) ≤ n5)) = false)) := by
    cases b3
    · by_cases h4 : 3 ≤ n4
      · exact .inr (.inl ⟨rfl, by omega, Lib.hid (by simp [h4])⟩)
      · by_cases h5 : (if en then 2 else 1) ≤ n5
        · refine .inr (.inr (.inl ⟨rfl, by omega, ?_, Lib.hid (by simp [h5])⟩))
          cases en <;> simp at h5 ⊢ <;> omega
        · refine .inr (.inr (.inr ⟨rfl, by omega, ?_, Lib.hid (by simp only [h4, h5]; rfl)⟩))
          cases en <;> simp at h5 ⊢ <;> omega
    · exact .inl ⟨rfl, Lib.hid rfl⟩
  clear HF
  have hl := HL.out
  cases en <;> simp only [Bool.false_eq_true, if_false, if_true] at hcase
  all_goals
    rcases hcase with ⟨rfl, HC⟩ | ⟨rfl, h4, HC⟩ | ⟨rfl, h4, h5, HC⟩ | ⟨rfl, h4, h5, HC⟩
    all_goals
      go_enter Tryz.func180, Tryz.ntmps180
      go_wp2_with fail
      rw [HW0.out]
      go_wp2_with (first
        | (go_at_call 44; refine (WindowValid_sb H1 _ _ HV0.out).mono ?_; rintro e w1 ⟨rfl, hb1⟩; obtain ⟨p0, p1, pf⟩ := box2_cells ((hb1.block _ lp).trans HP.out); have HB1 := Lib.hid hb1; clear hb1)
        | (go_at_call 96; refine (l21Ask_b H2 _).mono ?_; rintro e w2 ⟨rfl, hb2⟩; have HB2 : Hid (Below W0.heap.size W0 w2) := Lib.hid (HB1.out.trans (hb2.mono HB1.out.size)); clear hb2)
        | (at_builtin; refine list_of_wp rfl fun K hK => wp_asks0 (base := w.heap.size) (l2 := l) (heap_alloc_new _ _) (Nat.le_trans HB0.out.size HB2.out.size) (HV0.out.below (below_alloc HB2.out _)) (by omega) (Nat.le_trans HB0.out.size (below_alloc HB2.out _).size) rfl rfl rfl (fun A5 c5 w5 ho5 hg5 => hK _ _ ?_)
           have hb05 := (below_alloc HB2.out (.cells #[] 118)).grown hg5 (below_alloc HB2.out (.cells #[] 118)).size (fun r hr => by cases hr; exact HB2.out.size)
           obtain ⟨p0, p1, pf⟩ := box2_cells ((hb05.block _ lp).trans HP.out)
           have HB5 := Lib.hid hb05; have HO5 := Lib.hid ho5; clear hb05 ho5 hg5)
        | (go_at_call 97; refine (l21Has_b H3 _ _ (HV0.out.below HB5.out)).mono ?_; rintro e w6 ⟨rfl, hb6⟩
           have HB6 : Hid (Below W0.heap.size W0 w6) := Lib.hid (HB5.out.trans (hb6.mono HB5.out.size)); have HO6 := Lib.hid (HO5.out.below hb6)
           obtain ⟨p0, p1, pf⟩ := box2_cells ((HB6.out.block _ lp).trans HP.out); clear hb6)
        | (go_at_call 98; refine (l21Peer_b H4 _ _ (HV0.out.below HB6.out)).mono ?_; rintro e w' ⟨rfl, rfl⟩)
        | (go_at_call 99; refine (l21Block_b H5 _ _ (HV0.out.below HB6.out)).mono ?_; rintro e w' ⟨rfl, rfl⟩)
        | (at_builtin; refine list_of_wp rfl fun K hK => wp_askp1 (base := w.heap.size) HO6.out (by omega) (Nat.le_trans HB0.out.size HB6.out.size) rfl rfl rfl rfl (fun A7 c7 w7 ho7 hg7 => hK _ _ ?_)
           have hb07 := (HB0.out.trans (HB6.out.mono HB0.out.size)).grown hg7 (Nat.le_trans HB0.out.size HB6.out.size) (fun r hr => (HO6.out.lt' r hr).1)
           have HB7 := Lib.hid hb07; have HO7 := Lib.hid ho7; clear hb07 ho7 hg7))
      go_ret2
      first
        | exact HNO.out _ _ HC.out HO6.out (HB0.out.trans (HB6.out.mono HB0.out.size))
        | exact HYES.out _ _ HC.out HO7.out HB7.out
end Go.Proofs.YtcplnfmcefkehaaGreat
namespace Go.Proofs.YtcplnfmcefkehaaGreat
open Go.RowKit
attribute [local go_sem ↓] Go.wp_at_zero Go.wp_at_succ

/-- Only the reader is written: all rows of worlds are kept. -/
theorem only_keep {g P : Nat} {w w' : World} (h : Only g w w') (hr : Rdr w g P) : Keep LT2 w w' :=
  Keep.of_grown h (fun r hr' => by
    cases hr'
    obtain ⟨bs, A, c, p, h1, _⟩ := hr
    exact ⟨_, _, _, h1, by decide⟩)
theorem PairsC.only {B g P : Nat} {e : TypeId} {w w' : World} {v : Value} {l : List (Int × Int)} (h : PairsC B e w v l) (ho : Only g w w') (hr : Rdr w g P) (he : e ∈ LT2) : PairsC B e w' v l := h.next (only_keep ho hr) he
/-- What a draw of a request leaves. -/
def AskDraw (g P : Nat) (w : World) (e : Ending) (w' : World) : Prop := ∃ c d : Int, e = .returned (.agg #[.int .i64 c, .int .i64 d]) ∧ Rdr w' g P ∧ Only g w w'
set_option maxHeartbeats 1600000 in
theorem l92Ask_any (g P : Nat) (w : World) (hr : Rdr w g P) (hP : P ≤ 1000000) : Calls Tryz.prog 181 #[.pointer (some ⟨g, 0, none⟩)] w (AskDraw g (P + 4) w) := by
  have hgl := hr.lt
  have hr0 := hr.below (below_alloc (Below.refl _ _) (.cells #[.int .i64 0, .int .i64 0] 118))
  have o0 : Only g w (w.alloc (.cells #[.int .i64 0, .int .i64 0] 118)) := Only.of_below (below_alloc (Below.refl _ _) _)
  have hz0 : (w.alloc (.cells #[.int .i64 0, .int .i64 0] 118)).heap[w.heap.size]? = some (.cells #[.int .i64 0, .int .i64 0] 118 (0, 0)) := heap_alloc_new w _
  go_enter Tryz.func181, Tryz.ntmps181
  go_wp2_with fail
  refine (pick_any g P 6 _ hr0 (by omega) (by omega) (by omega)).mono ?_
  rintro e w1 ⟨c, rfl, c1, c2, r1, o1⟩
  go_wp2_with fail
  refine (pick_any g (P + 1) 8 _ r1 (by omega) (by omega) (by omega)).mono ?_
  rintro e w2 ⟨d, rfl, d1, d2, r2, o2⟩
  have o02 := o0.trans (o1.trans o2)
  have hz2 := ((o1.trans o2).block _ (by simp) (fun e => by have := Option.some.inj e; omega)).trans hz0
  have hz2l := lt_heap hz2
  obtain ⟨W2, HW2⟩ : ∃ W, Hid (w2.alloc (.cells #[.int .i64 c, .int .i64 d] 118) = W) := ⟨_, Lib.hid rfl⟩
  have r2a : Rdr W2 g (P + 2) := by rw [← HW2.out]; exact r2.below (below_alloc (Below.refl _ _) _)
  have o2a : Only g w W2 := by rw [← HW2.out]; exact o02.thenB (below_alloc (Below.refl _ _) _)
  have hz2a : W2.heap[w.heap.size]? = some (.cells #[.int .i64 0, .int .i64 0] 118 (0, 0)) := by rw [← HW2.out]; exact heap_al hz2
  have hy2a : W2.heap[w2.heap.size]? = some (.cells #[.int .i64 c, .int .i64 d] 118 (0, 0)) := by rw [← HW2.out]; exact heap_alloc_new w2 _
  clear o02 hz2 hr0 o0 hz0 r1 o1 r2 o2 hr
  go_wp2_with fail
  rw [HW2.out]
  refine (pick_any g (P + 2) 24 W2 r2a (by omega) (by omega) (by omega)).mono ?_
  rintro e w3 ⟨s, rfl, s1, s2, r3, o3⟩
  have hz3 := (o3.block _ (lt_heap hz2a) (fun e => by have := Option.some.inj e; omega)).trans hz2a
  have hy3 := (o3.block _ (lt_heap hy2a) (fun e => by have := Option.some.inj e; omega)).trans hy2a
  have o3a := o2a.trans o3
  have hne : w.heap.size ≠ w2.heap.size := by omega
  have hne' : w2.heap.size ≠ w.heap.size := by omega
  have HZ3 := Lib.hid hz3
  have HY3 := Lib.hid hy3
  clear r2a o2a hz2a hy2a o3 hz3 hy3
  have HFIN : Hid (∀ (W : World) (a b : Int), Rdr W g (P + 4) → Only g w W → AskDraw g (P + 4) w (.returned (.agg #[.int .i64 a, .int .i64 b])) ((W.setCell ⟨w.heap.size, 0, none⟩ (.int .i64 a)).setCell ⟨w.heap.size, 1, none⟩ (.int .i64 b))) := Lib.hid (fun W a b h1 h2 =>
    ⟨a, b, rfl, (h1.set (p := ⟨w.heap.size, 0, none⟩) hgl _).set (p := ⟨w.heap.size, 1, none⟩) hgl _, (h2.set (p := ⟨w.heap.size, 0, none⟩) (Nat.le_refl _) _).set (p := ⟨w.heap.size, 1, none⟩) (Nat.le_refl _) _⟩)
  have hs : s = 0 ∨ s = 1 ∨ 2 ≤ s := by omega
  rcases hs with rfl | rfl | hs
  · go_wp2_with fail
    refine (pick_any g (P + 3) 2 w3 r3 (by omega) (by omega) (by omega)).mono ?_
    rintro e w4 ⟨x, rfl, x1, x2, r4, o4⟩
    have hz4 := (o4.block _ (lt_heap HZ3.out) (fun e => by have := Option.some.inj e; omega)).trans HZ3.out
    have hy4 := (o4.block _ (lt_heap HY3.out) (fun e => by have := Option.some.inj e; omega)).trans HY3.out
    have o4a := o3a.trans o4
    obtain ⟨z0, z1, zf⟩ := box2_cells hz4
    obtain ⟨y0, y1, yf⟩ := box2_cells hy4
    have r5 := r4.set (p := ⟨w2.heap.size, 0, none⟩) (by show g < w2.heap.size; omega) (.int .i64 (x * 7 - 1))
    have o5 := o4a.set (p := ⟨w2.heap.size, 0, none⟩) (by show w.heap.size ≤ w2.heap.size; omega) (.int .i64 (x * 7 - 1))
    clear hz4 hy4 o4 o4a r4 r3 o3a
    go_wp2_with fail
    refine bodyPost_ret (v := .agg #[.int .i64 (x * 7 - 1), .int .i64 d]) (by simp [results, Tryz.results181, go_sem, z0, z1]) rfl (HFIN.out _ _ _ r5 o5)
  · have r3a := r3.below (below_alloc (Below.refl _ _) (.cells #[.int .i64 (-1), .int .i64 15, .int .i64 16] 3))
    have hz3a : (w3.alloc (.cells #[.int .i64 (-1), .int .i64 15, .int .i64 16] 3)).heap[w3.heap.size]? = some (.cells #[.int .i64 (-1), .int .i64 15, .int .i64 16] 3 (0, 0)) := heap_alloc_new w3 _
    have hl3 := lt_heap HY3.out
    have hlz3 := lt_heap HZ3.out
    go_wp2_with fail
    refine (pick_any g (P + 3) 3 _ r3a (by omega) (by omega) (by omega)).mono ?_
    rintro e w4 ⟨x, rfl, x1, x2, r4, o4⟩
    have hz4 := (o4.block _ (by simp; omega) (fun e => by have := Option.some.inj e; omega)).trans (heap_al (o := .cells #[.int .i64 (-1), .int .i64 15, .int .i64 16] 3) HZ3.out)
    have hy4 := (o4.block _ (by simp; omega) (fun e => by have := Option.some.inj e; omega)).trans (heap_al (o := .cells #[.int .i64 (-1), .int .i64 15, .int .i64 16] 3) HY3.out)
    have hk4 := (o4.block w3.heap.size (by simp) (fun e => by have := Option.some.inj e; omega)).trans hz3a
    have o4a := (o3a.thenB (below_alloc (Below.refl _ _) (.cells #[.int .i64 (-1), .int .i64 15, .int .i64 16] 3))).trans o4
    obtain ⟨z0, z1, zf⟩ := box2_cells hz4
    obtain ⟨y0, y1, yf⟩ := box2_cells hy4
    have k0 := cell_of_row w4 w3.heap.size 0 _ _ _ hk4
    have k1 := cell_of_row w4 w3.heap.size 1 _ _ _ hk4
    have k2 := cell_of_row w4 w3.heap.size 2 _ _ _ hk4
    have hx : x = 0 ∨ x = 1 ∨ x = 2 := by omega
    clear hz4 hy4 hk4 o4 r3a r3 hz3a o3a
    rcases hx with rfl | rfl | rfl
    · have r5 := r4.set (p := ⟨w2.heap.size, 1, none⟩) (by show g < w2.heap.size; omega) (.int .i64 (-1))
      have o5 := o4a.set (p := ⟨w2.heap.size, 1, none⟩) (by show w.heap.size ≤ w2.heap.size; omega) (.int .i64 (-1))
      clear r4 o4a
      go_wp2_with fail
      refine bodyPost_ret (v := .agg #[.int .i64 c, .int .i64 (-1)]) (by simp [results, Tryz.results181, go_sem, z0, z1]) rfl (HFIN.out _ _ _ r5 o5)
    · have r5 := r4.set (p := ⟨w2.heap.size, 1, none⟩) (by show g < w2.heap.size; omega) (.int .i64 15)
      have o5 := o4a.set (p := ⟨w2.heap.size, 1, none⟩) (by show w.heap.size ≤ w2.heap.size; omega) (.int .i64 15)
      clear r4 o4a
      go_wp2_with fail
      refine bodyPost_ret (v := .agg #[.int .i64 c, .int .i64 15]) (by simp [results, Tryz.results181, go_sem, z0, z1]) rfl (HFIN.out _ _ _ r5 o5)
    · have r5 := r4.set (p := ⟨w2.heap.size, 1, none⟩) (by show g < w2.heap.size; omega) (.int .i64 16)
      have o5 := o4a.set (p := ⟨w2.heap.size, 1, none⟩) (by show w.heap.size ≤ w2.heap.size; omega) (.int .i64 16)
      clear r4 o4a
      go_wp2_with fail
      refine bodyPost_ret (v := .agg #[.int .i64 c, .int .i64 16]) (by simp [results, Tryz.results181, go_sem, z0, z1]) rfl (HFIN.out _ _ _ r5 o5)
  · have n0 : (s == 0) = false := by rw [beq_eq_false_iff_ne]; omega
    have n1 : (s == 1) = false := by rw [beq_eq_false_iff_ne]; omega
    obtain ⟨z0, z1, zf⟩ := box2_cells HZ3.out
    obtain ⟨y0, y1, yf⟩ := box2_cells HY3.out
    have r5 := r3.mono (Q := P + 4) (by omega)
    clear hs r3
    go_wp2_with fail
    refine bodyPost_ret (v := .agg #[.int .i64 c, .int .i64 d]) (by simp [results, Tryz.results181, go_sem, z0, z1]) rfl (HFIN.out _ _ _ r5 o3a)

/-- What a draw of a window leaves. -/
def WinDraw (g P : Nat) (w : World) (e : Ending) (w' : World) : Prop := ∃ v l, e = .returned v ∧ PairsC w.heap.size 118 w' v l ∧ l.length ≤ 20 ∧ Rdr w' g P ∧ Only g w w'
theorem wAsk_len (l : List (Int × Int)) (a : Int × Int) (en : Bool) : (wAsk l a en).1.length ≤ l.length + 1 := by
  unfold wAsk
  repeat' split
  all_goals simp
set_option maxHeartbeats 1600000 in
theorem l92Window_any (g P : Nat) (w : World) (hr : Rdr w g P) (hP : P ≤ 900000) : Calls Tryz.prog 132 #[.pointer (some ⟨g, 0, none⟩)] w (WinDraw g (P + 100) w) := by
  have hgl := hr.lt
  have hr0 := hr.below (below_alloc (Below.refl _ _) (.cells #[] 118))
  have o0 : Only g w (w.alloc (.cells #[] 118)) := Only.of_below (below_alloc (Below.refl _ _) _)
  have hm0 : PairsC w.heap.size 118 (w.alloc (.cells #[] 118)) (.slice (some ⟨w.heap.size, 0, none⟩) 0 0) [] := PairsC.empty (heap_alloc_new w _) (Nat.le_refl _)
  have HM0 := Lib.hid hm0
  have HO0 := Lib.hid o0
  clear hm0 o0
  go_enter Tryz.func132, Tryz.ntmps132
  go_wp2_with fail
  refine (pick_any g P 14 _ hr0 (by omega) (by omega) (by omega)).mono ?_
  rintro e w1 ⟨n, rfl, n1, n2, r1, o1⟩
  have HM1 := Lib.hid (HM0.out.only o1 hr0 (by decide))
  have HO1 := Lib.hid (HO0.out.trans o1)
  have HR1 := Lib.hid r1
  clear HM0 HO0 hr0 r1 o1 hr
  go_wp2_with fail
  go_loopw [3, 5] (fun v i wr => ∃ (l : List (Int × Int)) (k : Nat), (k : Int) ≤ n ∧ i = .int .i64 k ∧ l.length ≤ k ∧ PairsC w.heap.size 118 wr v l ∧ Rdr wr g (P + 1 + 5 * k) ∧ Only g w wr) (fun _ i _ => (n - intOf i).toNat)
  case atStart => exact ⟨[], 0, by omega, rfl, by simp, HM1.out, by simpa using HR1.out, HO1.out⟩
  case round =>
    obtain ⟨l, k, hk, rfl, hl, ho, hrr, hoo⟩ := hrel
    by_cases hlt : (k : Int) < n
    · have HO := Lib.hid ho
      have HOO := Lib.hid hoo
      have HRR := Lib.hid hrr
      clear ho hoo
      go_wp2_with fail
      refine (l92Ask_any g (P + 1 + 5 * k) _ hrr (by omega)).mono ?_
      rintro e w3 ⟨c, d, rfl, r3, o3⟩
      have HO3 := Lib.hid (HO.out.only o3 HRR.out (by decide))
      have HOO3 := Lib.hid (HOO.out.trans o3)
      have HRR3 := Lib.hid r3
      clear o3 hrr
      go_wp2_with fail
      refine (pick_any g (P + 1 + 5 * k + 4) 3 w3 r3 (by omega) (by omega) (by omega)).mono ?_
      rintro e w4 ⟨y, rfl, y1, y2, r4, o4⟩
      have ho4 := HO3.out.only o4 HRR3.out (by decide)
      have hv4 := ho4.r
      have HOO4 := Lib.hid (HOO3.out.trans o4)
      have HRR4 := Lib.hid r4
      have HO4 := Lib.hid ho4
      have hs4 : w.heap.size ≤ w4.heap.size := HOO4.out.size
      clear o4 r3 r4 ho4
      go_wp2_with fail
      refine (WindowAsk_s l (c, d) _ _ w4 hv4 (by omega)).mono ?_
      rintro e w5 ⟨v5, rfl, h5, b5⟩
      have hwl := wAsk_len l (c, d) (y == 0)
      obtain ⟨r5, HR5⟩ : ∃ r, Hid ((wAsk l (c, d) (y == 0)).1 = r) := ⟨_, Lib.hid rfl⟩
      obtain ⟨q5, HQ5⟩ : ∃ r, Hid ((wAsk l (c, d) (y == 0)).2 = r) := ⟨_, Lib.hid rfl⟩
      rw [HR5.out] at h5 hwl
      rw [HQ5.out]
      have H5 := Lib.hid (h5.mono (B' := w.heap.size) hs4)
      have HOO5 := Lib.hid (HOO4.out.thenB b5)
      have HRR5 := Lib.hid (HRR4.out.below b5)
      have HO5 := Lib.hid (HO4.out.below b5)
      obtain ⟨A5, c5, rfl⟩ := H5.out.sl
      clear h5 b5 hv4
      cases q5
      · go_wp2_with fail
        go_roundw
        case rel => exact ⟨l, k + 1, by omega, by go_num, by omega, HO5.out, HRR5.out.mono (by omega), HOO5.out⟩
        case measure => simp [intOf]; omega
      · go_wp2_with fail
        go_roundw
        case rel => exact ⟨r5, k + 1, by omega, by go_num, by omega, H5.out, HRR5.out.mono (by omega), HOO5.out⟩
        case measure => simp [intOf]; omega
    · have hk13 : k ≤ 13 := by omega
      have HO := Lib.hid ho
      have HOO := Lib.hid hoo
      have HRR := Lib.hid hrr
      clear ho hoo
      go_wp2_with fail
      refine (pick_any g (P + 1 + 5 * k) 16 _ hrr (by omega) (by omega) (by omega)).mono ?_
      rintro e w3 ⟨y, rfl, y1, y2, r3, o3⟩
      have HO3 := Lib.hid (HO.out.only o3 HRR.out (by decide))
      have HOO3 := Lib.hid (HOO.out.trans o3)
      have HRR3 := Lib.hid r3
      clear o3 hrr
      by_cases hy : y = 0
      · subst hy
        go_wp2_with fail
        refine (l92Ask_any g (P + 1 + 5 * k + 1) w3 r3 (by omega)).mono ?_
        rintro e w4 ⟨c, d, rfl, r4, o4⟩
        have ho4 := HO3.out.only o4 HRR3.out (by decide)
        have HOO4 := Lib.hid (HOO3.out.trans o4)
        have HRR4 := Lib.hid r4
        have hs4 : w.heap.size ≤ w4.heap.size := HOO4.out.size
        obtain ⟨A4, c4, rfl⟩ := ho4.sl
        have HO4 := Lib.hid ho4
        clear o4 r3 r4 ho4
        go_wp2_with (at_builtin; refine list_of_wp rfl fun K hK => wp_askp1 (base := w.heap.size) HO4.out (by omega) hs4 rfl rfl rfl rfl (fun A7 c7 w7 ho7 hg7 => hK _ _ ?_))
        go_ret
        exact ⟨_, _, rfl, ho7, by simp; omega, (HRR4.out.grown hg7 (fun r e => by have := (HO4.out.lt' r e).1; omega)).mono (by omega), HOO4.out.grown hg7 (fun r e => (HO4.out.lt' r e).1)⟩
      · have hy' : (y == 0) = false := by rw [beq_eq_false_iff_ne]; exact hy
        go_wp2_with fail
        go_ret
        exact ⟨_, _, rfl, HO3.out, by omega, HRR3.out.mono (by omega), HOO3.out⟩
end Go.Proofs.YtcplnfmcefkehaaGreat

/- Plain functions: growth. No program in sight. | The plain law: a reader that has some of the blocks may put any other. No condition. | Plain functions: how a head is handled, and the plain laws. No condition. -/
import Derived.Test.YtcplnfmcefkehaaGreatBA
import Derived.Test.YtcplnfmcefkehaaGreatBF
import Derived.Test.YtcplnfmcefkehaaGreatBG
namespace Go.Proofs.YtcplnfmcefkehaaGreat

/-- The trees of a growth proof. -/
def gtrees (m n : Nat) : List (Nat × Nat) := trees 0 m ++ trees m n
def growOf (l : List Int) (m : Int) : List Int := if leavesOk l && inB m 0 l.length then (gtrees m.toNat l.length).map (rootT l) else []

section
variable {α β : Type} (f : α → α → α) (g : β → β → β) (e : α → β)
/-- One more tree onto a stack, its top ahead. -/
def push (p : Nat) : List (Nat × α) → Nat → α → List (Nat × α)
  | [], s, r => [(s, r)]
  | (s', r') :: st, s, r => if s' = s ∧ p % (2 * s) = 0 then push p st (2 * s) (f r' r) else (s, r) :: (s', r') :: st
def mergeF : Nat → List (Nat × α) → List (Nat × α) → List (Nat × α)
  | _, [], st => st
  | p, (s, r) :: is, st => mergeF (p + s) is (push f (p + s) st s r)
def merged (m n : Nat) (xs : List α) : List α := ((mergeF f 0 (((gtrees m n).map Prod.snd).zip xs) []).map Prod.snd).reverse
/-- What lies at a tree. -/
def lookP (ps : List ((Nat × Nat) × α)) (t : Nat × Nat) : Option α := ps.foldl (fun u p => if p.1 = t then some p.2 else u) none
/-- The root of the tree of level k from s on, out of parts. -/
def joinF (look : Nat × Nat → Option α) : Nat → Nat → Option α
  | 0, s => look (s, 1)
  | k + 1, s => match look (s, 2 ^ (k + 1)) with
    | some r => some r
    | none => match joinF look k s, joinF look k (s + 2 ^ k) with
      | some a, some b => some (f a b)
      | _, _ => none
variable (he : ∀ a b, e (f a b) = g (e a) (e b))
include he
theorem push_map (p : Nat) : ∀ (st : List (Nat × α)) (s : Nat) (r : α), push g p (st.map (Prod.map id e)) s (e r) = (push f p st s r).map (Prod.map id e)
  | [], s, r => rfl
  | (s', r') :: st, s, r => by
    simp only [List.map_cons, Prod.map, push, id]
    split
    · have := push_map p st (2 * s) (f r' r)
      rw [he] at this
      exact this
    · simp
theorem mergeF_map : ∀ (is st : List (Nat × α)) (p : Nat), mergeF g p (is.map (Prod.map id e)) (st.map (Prod.map id e)) = (mergeF f p is st).map (Prod.map id e)
  | [], st, p => rfl
  | (s, r) :: is, st, p => by
    simp only [List.map_cons, Prod.map, mergeF, id]
    rw [push_map f g e he]
    exact mergeF_map is _ _
theorem merged_map (m n : Nat) (xs : List α) : merged g m n (xs.map e) = (merged f m n xs).map e := by
  unfold merged
  have h := mergeF_map f g e he (((gtrees m n).map Prod.snd).zip xs) [] 0
  rw [show (List.map (Prod.map id e) ([] : List (Nat × α))) = [] from rfl] at h
  rw [List.zip_map_right, h]
  simp [List.map_map, Function.comp_def]
end
section
variable {α : Type} (f : α → α → α) (P : α → Prop) (hf : ∀ a b, P a → P b → P (f a b))
include hf
theorem push_all (p : Nat) : ∀ (st : List (Nat × α)) (s : Nat) (r : α), (∀ x ∈ st, P x.2) → P r → ∀ x ∈ push f p st s r, P x.2
  | [], s, r, _, hr, x, hx => by
    simp only [push, List.mem_singleton] at hx
    subst hx; exact hr
  | (s', r') :: st, s, r, hst, hr, x, hx => by
    simp only [push] at hx
    split at hx
    · exact push_all p st (2 * s) (f r' r) (fun y hy => hst y (List.mem_cons_of_mem _ hy)) (hf _ _ (hst (s', r') List.mem_cons_self) hr) x hx
    · rcases List.mem_cons.1 hx with rfl | hx
      · exact hr
      · exact hst x hx
theorem mergeF_all : ∀ (is st : List (Nat × α)) (p : Nat), (∀ x ∈ is, P x.2) → (∀ x ∈ st, P x.2) → ∀ x ∈ mergeF f p is st, P x.2
  | [], st, p, _, hst, x, hx => hst x hx
  | (s, r) :: is, st, p, his, hst, x, hx => by
    simp only [mergeF] at hx
    exact mergeF_all is _ _ (fun y hy => his y (List.mem_cons_of_mem _ hy)) (push_all f P hf _ st s r hst (his (s, r) List.mem_cons_self)) x hx
theorem merged_all (m n : Nat) (xs : List α) (hx : ∀ x ∈ xs, P x) : ∀ y ∈ merged f m n xs, P y := by
  intro y hy
  unfold merged at hy
  rw [List.mem_reverse, List.mem_map] at hy
  obtain ⟨z, hz, rfl⟩ := hy
  exact mergeF_all f P hf _ [] 0 (fun q hq => hx q.2 (List.of_mem_zip hq).2) (fun q hq => by cases hq) z hz
end
theorem lookP_go {α : Type} (t : Nat × Nat) : ∀ (ps : List ((Nat × Nat) × α)) (u : Option α), (∀ p ∈ ps, p.1 ≠ t) → ps.foldl (fun u p => if p.1 = t then some p.2 else u) u = u
  | [], u, _ => rfl
  | p :: ps, u, h => by
    rw [List.foldl_cons, if_neg (h p List.mem_cons_self)]
    exact lookP_go t ps u (fun q hq => h q (List.mem_cons_of_mem _ hq))
theorem lookP_none {α : Type} {t : Nat × Nat} {ps : List ((Nat × Nat) × α)} (h : ∀ p ∈ ps, p.1 ≠ t) : lookP ps t = none := lookP_go t ps none h
theorem lookP_some {α : Type} : ∀ {ps : List ((Nat × Nat) × α)} (u : Option α), (ps.map Prod.fst).Nodup → ∀ p ∈ ps, ps.foldl (fun u q => if q.1 = p.1 then some q.2 else u) u = some p.2
  | [], _, _, p, hp => by cases hp
  | q :: ps, u, hn, p, hp => by
    rw [List.map_cons, List.nodup_cons] at hn
    rw [List.foldl_cons]
    rcases List.mem_cons.1 hp with rfl | hp
    · rw [if_pos rfl]
      exact lookP_go _ ps _ (fun r hr e => hn.1 (e ▸ List.mem_map_of_mem hr))
    · exact lookP_some _ hn.2 p hp
def lookOf {α : Type} (m n : Nat) (xs : List α) : Nat × Nat → Option α := lookP ((gtrees m n).zip xs)
/-- Two trees side by side make one that is no part. -/
def joinS (m n : Nat) (a b : Nat × Nat) : Nat × Nat := if b.1 = a.1 + a.2 ∧ b.2 = a.2 ∧ (gtrees m n).all (fun t => decide (t ≠ (a.1, 2 * a.2))) = true then (a.1, 2 * a.2) else (99, 0)
theorem merged_shapes : ∀ n, n < 17 → ∀ m, m < n + 1 → merged (joinS m n) m n (gtrees m n) = trees 0 n := by decide +kernel
theorem gtrees_nodup : ∀ n, n < 17 → ∀ m, m < n + 1 → (gtrees m n).Nodup := by decide +kernel
theorem gtrees_ok : ∀ n, n < 17 → ∀ m, m < n + 1 → ∀ t ∈ gtrees m n, t.1 + t.2 ≤ n ∧ 2 ^ t.2.log2 = t.2 ∧ t.2.log2 ≤ 4 := by decide +kernel
theorem gtrees_len (m n : Nat) : (gtrees m n).length ≤ 34 := by
  unfold gtrees; rw [List.length_append]; have := trees_len 0 m; have := trees_len m n; omega
theorem pow_two_inj {a b : Nat} (h : 2 ^ a = 2 ^ b) : a = b := by
  have := congrArg Nat.log2 h; rwa [Nat.log2_two_pow, Nat.log2_two_pow] at this
/-- Whatever holds of the parts, and of a tree that is joined of two, holds of the peaks. -/
theorem merged_rel {m n : Nat} (hn : n ≤ 16) (hm : m ≤ n) (R : Nat → Nat → Int → Prop) (hR : ∀ k s x y, (gtrees m n).all (fun t => decide (t ≠ (s, 2 ^ (k + 1)))) = true → R k s x → R k (s + 2 ^ k) y → R (k + 1) s (pair x y))
    {xs : List Int} (hl : xs.length = (gtrees m n).length) (h0 : ∀ p ∈ (gtrees m n).zip xs, R p.1.2.log2 p.1.1 p.2) :
    ∃ ys : List ((Nat × Nat) × Int), ys.map Prod.fst = trees 0 n ∧ ys.map Prod.snd = merged pair m n xs ∧ ∀ y ∈ ys, R y.1.2.log2 y.1.1 y.2 := by
  let F : (Nat × Nat) × Int → (Nat × Nat) × Int → (Nat × Nat) × Int := fun a b => (joinS m n a.1 b.1, pair a.2 b.2)
  have hall := merged_all F (fun p => p.1.2 = 0 ∨ ∃ k, p.1.2 = 2 ^ k ∧ R k p.1.1 p.2) (by
    rintro ⟨⟨s, z⟩, x⟩ ⟨⟨s', z'⟩, y⟩ ha hb
    simp only [F, joinS]
    split
    · rename_i hc
      obtain ⟨h1, h2, h3⟩ := hc
      simp only at h1 h2 h3 ha hb ⊢
      subst h1 h2
      rcases ha with ha | ⟨k, ha, hx⟩
      · exact .inl (by omega)
      · rcases hb with hb | ⟨k', hb, hy⟩
        · exact .inl (by omega)
        · have e : k' = k := pow_two_inj (by rw [← ha, hb])
          subst e
          refine .inr ⟨k' + 1, by rw [ha, Nat.pow_succ]; omega, ?_⟩
          refine hR k' s x y ?_ hx (by rw [← ha]; exact hy)
          rw [show 2 ^ (k' + 1) = 2 * z' by rw [ha, Nat.pow_succ]; omega]
          exact h3
    · exact .inl rfl) m n ((gtrees m n).zip xs) (fun p hp => .inr ⟨p.1.2.log2, (gtrees_ok n (by omega) m (by omega) p.1 (List.of_mem_zip hp).1).2.1.symm, h0 p hp⟩)
  refine ⟨merged F m n ((gtrees m n).zip xs), ?_, ?_, ?_⟩
  · rw [← merged_map F (joinS m n) Prod.fst (fun _ _ => rfl), ← merged_shapes n (by omega) m (by omega)]
    congr 1
    rw [List.map_fst_zip (by omega)]
  · rw [← merged_map F pair Prod.snd (fun _ _ => rfl)]
    congr 1
    rw [List.map_snd_zip (by omega)]
  · intro y hy
    have h1 : y.1 ∈ trees 0 n := by
      rw [← merged_shapes n (by omega) m (by omega)]
      have h2 := List.mem_map_of_mem (f := Prod.fst) hy
      rw [← merged_map F (joinS m n) Prod.fst (fun _ _ => rfl), List.map_fst_zip (by omega)] at h2
      exact h2
    obtain ⟨t1, t2, t3⟩ := trees_ok n (by omega) 0 (by omega) y.1 h1
    rcases hall y hy with h3 | ⟨k, h3, h4⟩
    · rw [h3] at t2; simp at t2
    · have e : y.1.2.log2 = k := pow_two_inj (by rw [t2, h3])
      rw [e]; exact h4
theorem joined_law {m n : Nat} (hn : n ≤ 16) (hm : m ≤ n) {xs : List Int} (hl : xs.length = (gtrees m n).length) :
    (trees 0 n).map (fun t => joinF pair (lookOf m n xs) t.2.log2 t.1) = (merged pair m n xs).map some := by
  obtain ⟨ys, h1, h2, h3⟩ := merged_rel hn hm (fun k s x => joinF pair (lookOf m n xs) k s = some x) (fun k s x y hk hx hy => by
    have hnone : lookOf m n xs (s, 2 ^ (k + 1)) = none := lookP_none (fun p hp => by
      have := List.all_eq_true.1 hk p.1 (List.of_mem_zip hp).1
      simpa using this)
    simp only [joinF, hnone, hx, hy]) hl (fun p hp => by
    have h4 : lookOf m n xs p.1 = some p.2 := by
      unfold lookOf lookP
      exact lookP_some none (by rw [List.map_fst_zip (by omega)]; exact gtrees_nodup n (by omega) m (by omega)) p hp
    obtain ⟨_, t2, _⟩ := gtrees_ok n (by omega) m (by omega) p.1 (List.of_mem_zip hp).1
    have h5 : lookOf m n xs (p.1.1, 2 ^ p.1.2.log2) = some p.2 := by rw [t2]; exact h4
    generalize p.1.2.log2 = k at h5
    cases k with
    | zero => exact h5
    | succ k => simp only [joinF, h5])
  rw [← h1, ← h2, List.map_map, List.map_map]
  apply List.map_congr_left
  intro y hy
  exact h3 y hy
/-- What TreeGrowthCheck says. -/
def growAt (m : Nat) (old : Int) (n : Nat) (dg : Int) (proof : List Int) : Bool :=
  decide (proof.length = (gtrees m n).length) && (fold m (proof.take (trees 0 m).length) == old) && (fold n (merged pair m n proof) == dg)
def growCheck (m old n dg : Int) (proof : List Int) : Bool := inB n 0 16 && inB m 0 n && digs proof && growAt m.toNat old n.toNat dg proof
end Go.Proofs.YtcplnfmcefkehaaGreat
namespace Go.Proofs.YtcplnfmcefkehaaGreat

def noText : ByteArray := ⟨#[]⟩
/-- g has some of f's blocks, and nothing else. -/
structure Part (f g : Fd) : Prop where
  pub : g.pub = f.pub
  hd : g.hd = f.hd
  lb : g.bl.length = f.bl.length
  lh : g.hv.length = f.bl.length
  at_ : ∀ j, j < f.bl.length → ∃ b, g.hv[j]? = some b ∧ g.bl[j]? = some (if b then f.bl.getD j noText else noText)
theorem blocksOk_of {bl : List ByteArray} {hv : List Bool} (h : ∀ (j : Nat) s b, bl[j]? = some s → hv[j]? = some b → blockOk s b = true) : blocksOk bl hv = true := by
  induction bl generalizing hv with
  | nil => rfl
  | cons s bl ih =>
    cases hv with
    | nil => rfl
    | cons b hv =>
      simp only [blocksOk, Bool.and_eq_true]
      exact ⟨h 0 s b rfl rfl, ih fun j s' b' h1 h2 => h (j + 1) s' b' (by simpa using h1) (by simpa using h2)⟩
theorem wholeB_all {l : List Bool} (h : wholeB l = true) : ∀ j, j < l.length → l[j]? = some true := by
  intro j hj
  unfold wholeB bcount at h
  split at h
  · rename_i h16
    have h1 : cnt l = l.length := by have := beq_iff_eq.1 h; omega
    have h2 := List.count_eq_length.1 h1
    have h3 := h2 l[j] (List.getElem_mem hj)
    rw [List.getElem?_eq_getElem hj, ← h3]
  · have := beq_iff_eq.1 h; omega
theorem all_wholeB {l : List Bool} (h16 : l.length ≤ 16) (h : ∀ j, j < l.length → l[j]? = some true) : wholeB l = true := by
  unfold wholeB bcount
  rw [if_pos h16]
  have : cnt l = l.length := List.count_eq_length.2 fun b hb => by
    obtain ⟨j, hj, rfl⟩ := List.getElem_of_mem hb
    have := h j hj
    rw [List.getElem?_eq_getElem hj] at this
    exact (Option.some.inj this).symm
  simp [this]
end Go.Proofs.YtcplnfmcefkehaaGreat
namespace Go.Proofs.YtcplnfmcefkehaaGreat

def Hd.same (a b : Hd) : Bool := a.len == b.len && a.dg == b.dg && a.sg == b.sg
/-- How a valid feed handles a head. -/
def hcode (f : Fd) (h : Hd) (growth : List Int) : Int :=
  if !hcheck f.pub h || h.len == 0 then 4
  else if h.same f.hd then 1
  else if h.len < f.hd.len then 2
  else if h.len = f.hd.len then 3
  else if decide (0 < f.hd.len) && !growCheck f.hd.len f.hd.dg h.len h.dg growth then 4
  else 0
/-- The feed under a longer head. -/
def Fd.grow (f : Fd) (h : Hd) : Fd := ⟨f.pub, h, f.bl ++ List.replicate (h.len.toNat - f.bl.length) noText, f.hv ++ List.replicate (h.len.toNat - f.hv.length) false⟩
def fhead (f : Fd) (h : Hd) (growth : List Int) : Fd × Int :=
  if fvalid f then (if hcode f h growth = 0 then f.grow h else f, hcode f h growth) else (Fd.zero, 5)
/-- What is so where a head was accepted. -/
theorem hcode_done {f : Fd} {h : Hd} {l : List Int} (h0 : hcode f h l = 0) : hcheck f.pub h = true ∧ h.len ≠ 0 ∧ f.hd.len < h.len ∧ (0 < f.hd.len → growCheck f.hd.len f.hd.dg h.len h.dg l = true) := by
  unfold hcode at h0
  split at h0
  · cases h0
  · rename_i c1
    split at h0
    · cases h0
    · split at h0
      · cases h0
      · split at h0
        · cases h0
        · split at h0
          · cases h0
          · rename_i c4 c5 c6
            simp only [Bool.or_eq_true, Bool.not_eq_true', beq_iff_eq, not_or, Bool.not_eq_false] at c1
            refine ⟨c1.1, c1.2, by omega, fun hp => ?_⟩
            simpa [hp] using c6
theorem hcheck_len {p : Int} {h : Hd} (hc : hcheck p h = true) : 0 ≤ h.len ∧ h.len ≤ 16 := by
  simp only [hcheck, Bool.and_eq_true] at hc
  exact inB_true.1 hc.1.1.1.2
theorem wholeB_more {l : List Bool} {k : Nat} (hk : 0 < k) : wholeB (l ++ List.replicate k false) = false := by
  cases h : wholeB (l ++ List.replicate k false)
  · rfl
  · have := wholeB_all h l.length (by simp; omega)
    rw [List.getElem?_append_right (by omega)] at this
    simp [hk] at this
theorem blocksOk_more : ∀ {bl : List ByteArray} {hv : List Bool} (k : Nat), bl.length = hv.length → blocksOk bl hv = true → blocksOk (bl ++ List.replicate k noText) (hv ++ List.replicate k false) = true
  | [], [], 0, _, _ => rfl
  | [], [], k + 1, _, _ => by
    have := blocksOk_more (bl := []) (hv := []) k rfl rfl
    simp only [List.nil_append] at this ⊢
    rw [List.replicate_succ, List.replicate_succ, blocksOk, this]; rfl
  | s :: bl, b :: hv, k, hl, h => by
    simp only [blocksOk, Bool.and_eq_true, List.cons_append] at h ⊢
    exact ⟨h.1, blocksOk_more k (by simpa using hl) h.2⟩
theorem grow_valid {f : Fd} {h : Hd} {l : List Int} (hv : fvalid f = true) (h0 : hcode f h l = 0) : fvalid (f.grow h) = true := by
  obtain ⟨c1, c2, c3, _⟩ := hcode_done h0
  obtain ⟨l1, l2, l3⟩ := fvalid_len hv
  obtain ⟨b1, b2⟩ := hcheck_len c1
  simp only [fvalid, Bool.and_eq_true, beq_iff_eq] at hv
  obtain ⟨⟨⟨⟨⟨v1, v2⟩, v3⟩, v4⟩, v5⟩, v6⟩ := hv
  have e1 : h.len.toNat - f.bl.length = h.len.toNat - f.hv.length := by omega
  simp only [fvalid, Bool.and_eq_true, beq_iff_eq, Fd.grow]
  refine ⟨⟨⟨⟨⟨v1, by rw [c1, Bool.or_true]⟩, by simp; omega⟩, by simp; omega⟩, ?_⟩, ?_⟩
  · rw [e1]; exact blocksOk_more _ l1 v5
  · rw [wholeB_more (by omega)]; simp
theorem fhead_no {f : Fd} {h : Hd} {l : List Int} (hv : fvalid f = false) : fhead f h l = (Fd.zero, 5) := by unfold fhead; rw [hv]; rfl
theorem fhead_done {f : Fd} {h : Hd} {l : List Int} (hv : fvalid f = true) (h0 : hcode f h l = 0) : fhead f h l = (f.grow h, 0) := by unfold fhead; rw [hv, h0]; rfl
theorem fhead_keep {f : Fd} {h : Hd} {l : List Int} {c : Int} (hv : fvalid f = true) (hc : hcode f h l = c) (h0 : c ≠ 0) : fhead f h l = (f, c) := by unfold fhead; rw [hv, hc, if_pos rfl, if_neg h0]
end Go.Proofs.YtcplnfmcefkehaaGreat

/- Plain functions: growth. No program in sight. -/
import Derived.Test.YtlhiabnablbkpaaPuref
namespace Go.Proofs.Ytlhiabnablbkpaa

/-- The trees of a growth proof. -/
def gtrees (m n : Nat) : List (Nat × Nat) := trees 0 m ++ trees m n
def growOf (l : List Int) (m : Int) : List Int := if leavesOk l && inB m 0 l.length then (gtrees m.toNat l.length).map (rootT l) else []

section
variable {α β : Type} (f : α → α → α) (g : β → β → β) (e : α → β)
/-- One more tree onto a stack, its top ahead. -/
def push (p : Nat) : List (Nat × α) → Nat → α → List (Nat × α)
  | [], s, r => [(s, r)]
  | (s', r') :: st, s, r => if s' = s ∧ p % (2 * s) = 0 then push p st (2 * s) (f r' r) else (s, r) :: (s', r') :: st
def mergeF : Nat → List (Nat × α) → List (Nat × α) → List (Nat × α)
  | _, [], st => st
  | p, (s, r) :: is, st => mergeF (p + s) is (push f (p + s) st s r)
def merged (m n : Nat) (xs : List α) : List α := ((mergeF f 0 (((gtrees m n).map Prod.snd).zip xs) []).map Prod.snd).reverse
/-- What lies at a tree. -/
def lookP (ps : List ((Nat × Nat) × α)) (t : Nat × Nat) : Option α := ps.foldl (fun u p => if p.1 = t then some p.2 else u) none
/-- The root of the tree of level k from s on, out of parts. -/
def joinF (look : Nat × Nat → Option α) : Nat → Nat → Option α
  | 0, s => look (s, 1)
  | k + 1, s => match look (s, 2 ^ (k + 1)) with
    | some r => some r
    | none => match joinF look k s, joinF look k (s + 2 ^ k) with
      | some a, some b => some (f a b)
      | _, _ => none
variable (he : ∀ a b, e (f a b) = g (e a) (e b))
include he
theorem push_map (p : Nat) : ∀ (st : List (Nat × α)) (s : Nat) (r : α), push g p (st.map (Prod.map id e)) s (e r) = (push f p st s r).map (Prod.map id e)
  | [], s, r => rfl
  | (s', r') :: st, s, r => by
    simp only [List.map_cons, Prod.map, push, id]
    split
    · have := push_map p st (2 * s) (f r' r)
      rw [he] at this
      exact this
    · simp
theorem mergeF_map : ∀ (is st : List (Nat × α)) (p : Nat), mergeF g p (is.map (Prod.map id e)) (st.map (Prod.map id e)) = (mergeF f p is st).map (Prod.map id e)
  | [], st, p => rfl
  | (s, r) :: is, st, p => by
    simp only [List.map_cons, Prod.map, mergeF, id]
    rw [push_map f g e he]
    exact mergeF_map is _ _
theorem merged_map (m n : Nat) (xs : List α) : merged g m n (xs.map e) = (merged f m n xs).map e := by
  unfold merged
  have h := mergeF_map f g e he (((gtrees m n).map Prod.snd).zip xs) [] 0
  rw [show (List.map (Prod.map id e) ([] : List (Nat × α))) = [] from rfl] at h
  rw [List.zip_map_right, h]
  simp [List.map_map, Function.comp_def]
end
section
variable {α : Type} (f : α → α → α) (P : α → Prop) (hf : ∀ a b, P a → P b → P (f a b))
include hf
theorem push_all (p : Nat) : ∀ (st : List (Nat × α)) (s : Nat) (r : α), (∀ x ∈ st, P x.2) → P r → ∀ x ∈ push f p st s r, P x.2
  | [], s, r, _, hr, x, hx => by
    simp only [push, List.mem_singleton] at hx
    subst hx; exact hr
  | (s', r') :: st, s, r, hst, hr, x, hx => by
    simp only [push] at hx
    split at hx
    · exact push_all p st (2 * s) (f r' r) (fun y hy => hst y (List.mem_cons_of_mem _ hy)) (hf _ _ (hst (s', r') List.mem_cons_self) hr) x hx
    · rcases List.mem_cons.1 hx with rfl | hx
      · exact hr
      · exact hst x hx
theorem mergeF_all : ∀ (is st : List (Nat × α)) (p : Nat), (∀ x ∈ is, P x.2) → (∀ x ∈ st, P x.2) → ∀ x ∈ mergeF f p is st, P x.2
  | [], st, p, _, hst, x, hx => hst x hx
  | (s, r) :: is, st, p, his, hst, x, hx => by
    simp only [mergeF] at hx
    exact mergeF_all is _ _ (fun y hy => his y (List.mem_cons_of_mem _ hy)) (push_all f P hf _ st s r hst (his (s, r) List.mem_cons_self)) x hx
theorem merged_all (m n : Nat) (xs : List α) (hx : ∀ x ∈ xs, P x) : ∀ y ∈ merged f m n xs, P y := by
  intro y hy
  unfold merged at hy
  rw [List.mem_reverse, List.mem_map] at hy
  obtain ⟨z, hz, rfl⟩ := hy
  exact mergeF_all f P hf _ [] 0 (fun q hq => hx q.2 (List.of_mem_zip hq).2) (fun q hq => by cases hq) z hz
end
theorem lookP_go {α : Type} (t : Nat × Nat) : ∀ (ps : List ((Nat × Nat) × α)) (u : Option α), (∀ p ∈ ps, p.1 ≠ t) → ps.foldl (fun u p => if p.1 = t then some p.2 else u) u = u
  | [], u, _ => rfl
  | p :: ps, u, h => by
    rw [List.foldl_cons, if_neg (h p List.mem_cons_self)]
    exact lookP_go t ps u (fun q hq => h q (List.mem_cons_of_mem _ hq))
theorem lookP_none {α : Type} {t : Nat × Nat} {ps : List ((Nat × Nat) × α)} (h : ∀ p ∈ ps, p.1 ≠ t) : lookP ps t = none := lookP_go t ps none h
theorem lookP_some {α : Type} : ∀ {ps : List ((Nat × Nat) × α)} (u : Option α), (ps.map Prod.fst).Nodup → ∀ p ∈ ps, ps.foldl (fun u q => if q.1 = p.1 then some q.2 else u) u = some p.2
  | [], _, _, p, hp => by cases hp
  | q :: ps, u, hn, p, hp => by
    rw [List.map_cons, List.nodup_cons] at hn
    rw [List.foldl_cons]
    rcases List.mem_cons.1 hp with rfl | hp
    · rw [if_pos rfl]
      exact lookP_go _ ps _ (fun r hr e => hn.1 (e ▸ List.mem_map_of_mem hr))
    · exact lookP_some _ hn.2 p hp
def lookOf {α : Type} (m n : Nat) (xs : List α) : Nat × Nat → Option α := lookP ((gtrees m n).zip xs)
/-- Two trees side by side make one that is no part. -/
def joinS (m n : Nat) (a b : Nat × Nat) : Nat × Nat := if b.1 = a.1 + a.2 ∧ b.2 = a.2 ∧ (gtrees m n).all (fun t => decide (t ≠ (a.1, 2 * a.2))) = true then (a.1, 2 * a.2) else (99, 0)
theorem merged_shapes : ∀ n, n < 17 → ∀ m, m < n + 1 → merged (joinS m n) m n (gtrees m n) = trees 0 n := by decide +kernel
theorem gtrees_nodup : ∀ n, n < 17 → ∀ m, m < n + 1 → (gtrees m n).Nodup := by decide +kernel
theorem gtrees_ok : ∀ n, n < 17 → ∀ m, m < n + 1 → ∀ t ∈ gtrees m n, t.1 + t.2 ≤ n ∧ 2 ^ t.2.log2 = t.2 ∧ t.2.log2 ≤ 4 := by decide +kernel
theorem gtrees_len (m n : Nat) : (gtrees m n).length ≤ 34 := by
  unfold gtrees; rw [List.length_append]; have := trees_len 0 m; have := trees_len m n; omega
theorem pow_two_inj {a b : Nat} (h : 2 ^ a = 2 ^ b) : a = b := by
  have := congrArg Nat.log2 h; rwa [Nat.log2_two_pow, Nat.log2_two_pow] at this
/-- Whatever holds of the parts, and of a tree that is joined of two, holds of the peaks. -/
theorem merged_rel {m n : Nat} (hn : n ≤ 16) (hm : m ≤ n) (R : Nat → Nat → Int → Prop) (hR : ∀ k s x y, (gtrees m n).all (fun t => decide (t ≠ (s, 2 ^ (k + 1)))) = true → R k s x → R k (s + 2 ^ k) y → R (k + 1) s (pair x y))
    {xs : List Int} (hl : xs.length = (gtrees m n).length) (h0 : ∀ p ∈ (gtrees m n).zip xs, R p.1.2.log2 p.1.1 p.2) :
    ∃ ys : List ((Nat × Nat) × Int), ys.map Prod.fst = trees 0 n ∧ ys.map Prod.snd = merged pair m n xs ∧ ∀ y ∈ ys, R y.1.2.log2 y.1.1 y.2 := by
  let F : (Nat × Nat) × Int → (Nat × Nat) × Int → (Nat × Nat) × Int := fun a b => (joinS m n a.1 b.1, pair a.2 b.2)
  have hall := merged_all F (fun p => p.1.2 = 0 ∨ ∃ k, p.1.2 = 2 ^ k ∧ R k p.1.1 p.2) (by
    rintro ⟨⟨s, z⟩, x⟩ ⟨⟨s', z'⟩, y⟩ ha hb
    simp only [F, joinS]
    split
    · rename_i hc
      obtain ⟨h1, h2, h3⟩ := hc
      simp only at h1 h2 h3 ha hb ⊢
      subst h1 h2
      rcases ha with ha | ⟨k, ha, hx⟩
      · exact .inl (by omega)
      · rcases hb with hb | ⟨k', hb, hy⟩
        · exact .inl (by omega)
        · have e : k' = k := pow_two_inj (by rw [← ha, hb])
          subst e
          refine .inr ⟨k' + 1, by rw [ha, Nat.pow_succ]; omega, ?_⟩
          refine hR k' s x y ?_ hx (by rw [← ha]; exact hy)
          rw [show 2 ^ (k' + 1) = 2 * z' by rw [ha, Nat.pow_succ]; omega]
          exact h3
    · exact .inl rfl) m n ((gtrees m n).zip xs) (fun p hp => .inr ⟨p.1.2.log2, (gtrees_ok n (by omega) m (by omega) p.1 (List.of_mem_zip hp).1).2.1.symm, h0 p hp⟩)
  refine ⟨merged F m n ((gtrees m n).zip xs), ?_, ?_, ?_⟩
  · rw [← merged_map F (joinS m n) Prod.fst (fun _ _ => rfl), ← merged_shapes n (by omega) m (by omega)]
    congr 1
    rw [List.map_fst_zip (by omega)]
  · rw [← merged_map F pair Prod.snd (fun _ _ => rfl)]
    congr 1
    rw [List.map_snd_zip (by omega)]
  · intro y hy
    have h1 : y.1 ∈ trees 0 n := by
      rw [← merged_shapes n (by omega) m (by omega)]
      have h2 := List.mem_map_of_mem (f := Prod.fst) hy
      rw [← merged_map F (joinS m n) Prod.fst (fun _ _ => rfl), List.map_fst_zip (by omega)] at h2
      exact h2
    obtain ⟨t1, t2, t3⟩ := trees_ok n (by omega) 0 (by omega) y.1 h1
    rcases hall y hy with h3 | ⟨k, h3, h4⟩
    · rw [h3] at t2; simp at t2
    · have e : y.1.2.log2 = k := pow_two_inj (by rw [t2, h3])
      rw [e]; exact h4
theorem joined_law {m n : Nat} (hn : n ≤ 16) (hm : m ≤ n) {xs : List Int} (hl : xs.length = (gtrees m n).length) :
    (trees 0 n).map (fun t => joinF pair (lookOf m n xs) t.2.log2 t.1) = (merged pair m n xs).map some := by
  obtain ⟨ys, h1, h2, h3⟩ := merged_rel hn hm (fun k s x => joinF pair (lookOf m n xs) k s = some x) (fun k s x y hk hx hy => by
    have hnone : lookOf m n xs (s, 2 ^ (k + 1)) = none := lookP_none (fun p hp => by
      have := List.all_eq_true.1 hk p.1 (List.of_mem_zip hp).1
      simpa using this)
    simp only [joinF, hnone, hx, hy]) hl (fun p hp => by
    have h4 : lookOf m n xs p.1 = some p.2 := by
      unfold lookOf lookP
      exact lookP_some none (by rw [List.map_fst_zip (by omega)]; exact gtrees_nodup n (by omega) m (by omega)) p hp
    obtain ⟨_, t2, _⟩ := gtrees_ok n (by omega) m (by omega) p.1 (List.of_mem_zip hp).1
    have h5 : lookOf m n xs (p.1.1, 2 ^ p.1.2.log2) = some p.2 := by rw [t2]; exact h4
    generalize p.1.2.log2 = k at h5
    cases k with
    | zero => exact h5
    | succ k => simp only [joinF, h5])
  rw [← h1, ← h2, List.map_map, List.map_map]
  apply List.map_congr_left
  intro y hy
  exact h3 y hy
theorem merged_roots {m n : Nat} (hn : n ≤ 16) (hm : m ≤ n) (l : List Int) : merged pair m n ((gtrees m n).map (rootT l)) = (trees 0 n).map (rootT l) := by
  obtain ⟨ys, h1, h2, h3⟩ := merged_rel (xs := (gtrees m n).map (rootT l)) hn hm (fun k s x => rootN l k s = x) (fun k s x y _ hx hy => by rw [← hx, ← hy]; rfl) (by simp) (fun p hp => by
    rw [List.zip_map_right, List.mem_map] at hp
    obtain ⟨q, hq, rfl⟩ := hp
    have : q.1 = q.2 := by
      rw [List.zip_eq_zipWith] at hq
      have := List.mem_iff_getElem.1 hq
      obtain ⟨i, hi, rfl⟩ := this
      simp
    show rootN l q.1.2.log2 q.1.1 = rootT l q.2
    rw [this]; rfl)
  rw [← h1, ← h2, List.map_map]
  apply List.map_congr_left
  intro y hy
  exact (h3 y hy).symm
/-- What TreeGrowthCheck says. -/
def growAt (m : Nat) (old : Int) (n : Nat) (dg : Int) (proof : List Int) : Bool :=
  decide (proof.length = (gtrees m n).length) && (fold m (proof.take (trees 0 m).length) == old) && (fold n (merged pair m n proof) == dg)
def growCheck (m old n dg : Int) (proof : List Int) : Bool := inB n 0 16 && inB m 0 n && digs proof && growAt m.toNat old n.toNat dg proof
theorem grow_law {l : List Int} (hl : leavesOk l = true) {m : Nat} (hm : m ≤ l.length) (hlen : 0 < l.length) : growCheck m (treeD (l.take m)) l.length (treeD l) (growOf l m) = true := by
  obtain ⟨h16, hd⟩ := leavesOk_true.1 hl
  have hi : inB (m : Int) 0 (l.length : Int) = true := inB_true.2 (by omega)
  have hg : growOf l m = (gtrees m l.length).map (rootT l) := by unfold growOf; rw [hl, hi]; rfl
  have htk : leavesOk (l.take m) = true := leavesOk_true.2 ⟨by simp; omega, digs_take hd m⟩
  have hlt : (l.take m).length = m := by simp; omega
  have hpk : peaksOf (l.take m) = (trees 0 m).map (rootT l) := by
    unfold peaksOf
    rw [hlt]
    apply List.map_congr_left
    intro t ht
    obtain ⟨t1, t2, _⟩ := trees_ok m (by omega) 0 (by omega) t ht
    exact rootN_take _ _ (by rw [t2]; exact t1)
  have hdg : digs ((gtrees m l.length).map (rootT l)) = true := by
    unfold digs
    rw [List.all_map, List.all_eq_true]
    intro t ht
    obtain ⟨t1, t2, _⟩ := gtrees_ok l.length (by omega) m (by omega) t ht
    exact rootN_dig hd _ _ (by rw [t2]; exact t1)
  unfold growCheck growAt
  rw [hg, hdg, hi, show inB (l.length : Int) 0 16 = true from inB_true.2 (by omega)]
  simp only [Int.toNat_natCast, List.length_map, decide_true, Bool.true_and, Bool.and_eq_true, beq_iff_eq]
  refine ⟨?_, ?_⟩
  · unfold treeD
    rw [htk, if_pos rfl, hlt, hpk]
    congr 1
    unfold gtrees
    rw [List.map_append, List.take_append_of_le_length (by simp), List.take_of_length_le (by simp)]
  · unfold treeD
    rw [hl, if_pos rfl, merged_roots h16 hm]
    rfl
end Go.Proofs.Ytlhiabnablbkpaa

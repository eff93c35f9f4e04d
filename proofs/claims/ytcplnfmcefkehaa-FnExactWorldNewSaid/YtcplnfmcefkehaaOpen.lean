/- The row's last step, for all laws: arguments that read as they did, and arguments opened to what the walks take. No condition. -/
import Derived.Test.YtcplnfmcefkehaaMem
import Derived.Carry
import Derived.Below
import Derived.ChangeSame
import Derived.Deep.Slices
import Derived.OpenShut
namespace Go.Proofs.Ytcplnfmcefkehaa
open Go.RowKit Go.ChangeShapes Go.WideShapes Go.Deep

section
variable {H : Type} {enc : TypeId × Value → H} {P : Program} {w : World} {base : Nat} {held : Bool}

/-- Each argument reads as it did where nothing below the heap's old size has turned. -/
theorem all_stay {W W' : World} (hl : laidOutB P = true) (hb : Below W.heap.size W W') (sp : Nat → Bool) : ∀ {ts : List TypeId} {vs : List Value} {ds : List (DataW H)} {ps : List MemPlace},
    ts.all (fun t => P.readableRec t && decide (t < P.types.size)) = true → DataW.TrodAll enc P W 0 (fun _ => true) true ts vs ds ps → (∀ x ∈ ps, x.block < W.heap.size) → (∀ x ∈ ps, sp x.block = true) →
    DataW.TrodAll enc P W' 0 sp true ts vs ds ps
  | [], [], [], _, _, h, _, _ => h
  | t :: ts, v :: vs, d :: ds, ps, hr, ⟨p, q, h1, h2, e⟩, hlt, hs => by
    subst e
    rw [List.all_cons, Bool.and_eq_true, Bool.and_eq_true, decide_eq_true_eq] at hr
    exact ⟨p, q, WideElems.Trod_stays hl hr.1.1 hr.1.2 h1 (fun x hx => hb.same (hlt x (List.mem_append_left _ hx))) (fun x hx => hs x (List.mem_append_left _ hx)),
      all_stay hl hb sp hr.2 h2 (fun x hx => hlt x (List.mem_append_right _ hx)) (fun x hx => hs x (List.mem_append_right _ hx)), rfl⟩
  | [], [], _ :: _, _, _, h, _, _ | [], _ :: _, [], _, _, h, _, _ | [], _ :: _, _ :: _, _, _, h, _, _ | _ :: _, [], [], _, _, h, _, _ | _ :: _, [], _ :: _, _, _, h, _, _ | _ :: _, _ :: _, [], _, _, h, _, _ => by simp [DataW.TrodAll] at h

/-- What a law's row asks of a call that answered true and turned nothing that was there. -/
theorem law_post {f : Func} {s : ChangeSpec} {apart fresh handsOn again : Bool} {W W' : World} {args : Array Value} {ds gs : List (DataW H)} {before : List MemPlace} {tb : TypeId}
    (hW : DataW.Whole enc P f.params.toList s.vars apart W args.toList ds gs before) (hv : s.vars = []) (hf : s.fn H (ds ++ gs) = { results := [.lit (.bool true)], args := ds })
    (hl : laidOutB P = true) (hr : f.params.toList.all (fun t => P.readableRec t && decide (t < P.types.size)) = true) (hrt : f.resultTypes = #[tb]) (htb : P.underlying tb = some .bool) (hb : Below W.heap.size W W') :
    s.post enc P f apart fresh handsOn again W args (.bool true) W' := by
  have hW0 := hW
  have hlt : ∀ p ∈ before, p.block < W.heap.size := fun p hp => hW.lt p hp
  obtain ⟨p, q, hA, hV, he, hz, hn⟩ := hW
  rw [hv] at hV
  obtain ⟨rfl, rfl⟩ := trodVars_none hV
  rw [List.append_nil] at he hf
  subst he
  have hres : ∀ (b : Nat) (sp : Nat → Bool) (hd : Bool), DataW.TrodAll enc P W' b sp hd f.resultTypes.toList ((Value.bool true).resultList f.resultTypes.size) [.lit (.bool true)] [] := fun b sp hd => by
    rw [hrt]; exact trodAll_mk1 (shut_bool htb true)
  have hst := fun sp hs => all_stay hl hb sp hr hA hlt hs
  have hfr : f.params.toList.length = f.params.toList.length := rfl
  refine ⟨ds, [], before, [], before, [], hW0, ?_, ?_, ?_, World.keptBut_mono (fun p hp => ⟨hp, Or.inr (Or.inl hp)⟩) (hb.frame (· ∈ before)), fun _ => ?_⟩
  · rw [List.append_nil, hf]; exact hres _ _ _
  · rw [List.append_nil, hf]; exact hst _ (fun x hx => by simpa using hlt x hx)
  · rw [List.append_nil, hf, hv]; exact rfl
  · refine ⟨ok_one hrt rfl (okWide_bool_mk htb true), [.lit (.bool true)] ++ ds, [], [] ++ before, ⟨[] ++ before, [], trodAll_append (hst _ (fun _ _ => rfl)) (hres _ _ _), ?_, ?_, ?_, ?_⟩, ?_⟩
    · rw [hv]; exact rfl
    · simp
    · intro b off hp
      have hin : MemPlace.cell b off ∈ before := by simpa using hp
      rw [hb.frozen (hlt _ hin)]
      exact hz b off hin
    · intro ha; simpa using hn ha
    · intro x hx _; simpa using hx

theorem open_R1 {α : Type} [Inhabited α] {Enc : α → Value} {Q : α → Prop} {t e : TypeId} {fuel : Nat} {v : Value} {x : DataW H × List MemPlace} (ht : P.underlying t = some (.slice e)) (hc : P.cellsOf e = 1)
    (hd : ∀ n V y, DataW.trod enc P w base (fun _ => true) held n e [V] = some y → ∃ z, V = Enc z ∧ Q z) (h : DataW.trod enc P w base (fun _ => true) held fuel t [v] = some x) : ∃ l : List α, R1 Enc w v l ∧ ∀ z ∈ l, Q z := by
  rcases open_slice1 ht hc h with ⟨h1, _⟩ | ⟨a, len, cap, m, n, V, D, Pl, h1, _, hl, hm, hmm, _, hx⟩
  · obtain rfl : v = .slice none 0 0 := by simpa using h1
    exact ⟨[], ⟨none, 0, rfl, ⟨Nat.le_refl _, fun _ => rfl⟩, by decide, fun h => absurd h (by simp)⟩, fun _ hz => by simp at hz⟩
  · obtain rfl : v = .slice (some a) len cap := by simpa using h1
    have hm2 : m = cap := by simpa using hmm
    subst hm2
    obtain ⟨F, hF⟩ := choose_lt (n := m) (p := fun i (z : α) => V i = Enc z ∧ Q z) (fun i hi => hd _ _ _ (hx i hi).2)
    refine ⟨(List.range len).map F, ⟨some a, m, by simp, ⟨by simpa using hl, fun h => by simp at h⟩, hm, fun h0 => ?_⟩, fun z hz => ?_⟩
    · have h0' : 0 < len := by simpa using h0
      obtain ⟨b, o, s⟩ := a
      have hs : s = none := by simpa [Addr.add] using World.cell?_spot (hx 0 (by omega)).1
      subst hs
      refine ⟨b, o, rfl, ?_, fun j hj => ?_⟩
      · have hc0 := (hx 0 (by omega)).1
        apply Classical.byContradiction
        intro hge
        have : w.heap[b]? = none := by simp; omega
        simp [Addr.add, World.cell?, this] at hc0
      · have hj' : j < len := by simpa using hj
        have h2 := (hx j (by omega)).1
        rw [add_plain] at h2
        rw [h2, (hF j (by omega)).1]
        simp
    · obtain ⟨i, hi, rfl⟩ := List.mem_map.1 hz
      have := List.mem_range.1 hi
      exact (hF i (by omega)).2

theorem open_RS {t e : TypeId} {fuel : Nat} {v : Value} {x : DataW H × List MemPlace} (ht : P.underlying t = some (.slice e)) (he : P.underlying e = some .string) (hc : P.cellsOf e = 1)
    (h : DataW.trod enc P w base (fun _ => true) held fuel t [v] = some x) : ∃ l : List ByteArray, RS w v l ∧ ∀ s ∈ l, s.size ≤ maxLen :=
  open_R1 ht hc (fun n V y hy => by obtain ⟨s, h1, _, h3⟩ := DataW.trod_string he hy; exact ⟨s, by simpa using h1, h3⟩) h
theorem open_RB {t e : TypeId} {fuel : Nat} {v : Value} {x : DataW H × List MemPlace} (ht : P.underlying t = some (.slice e)) (he : P.underlying e = some .bool) (hc : P.cellsOf e = 1)
    (h : DataW.trod enc P w base (fun _ => true) held fuel t [v] = some x) : ∃ l : List Bool, RB w v l := by
  obtain ⟨l, h1, _⟩ := open_R1 (Enc := Value.bool) (Q := fun _ => True) ht hc (fun n V y hy => by obtain ⟨b, h1, _⟩ := DataW.trod_bool he hy; exact ⟨b, by simpa using h1, trivial⟩) h
  exact ⟨l, h1⟩
theorem open_RI {t e : TypeId} {fuel : Nat} {v : Value} {x : DataW H × List MemPlace} (ht : P.underlying t = some (.slice e)) (he : P.underlying e = some (.int .i64)) (hc : P.cellsOf e = 1)
    (h : DataW.trod enc P w base (fun _ => true) held fuel t [v] = some x) : ∃ l : List Int, RI w v l ∧ ∀ n ∈ l, (Lit.int .i64 n).wf = true :=
  open_R1 ht hc (fun n V y hy => by obtain ⟨s, h1, _, h3⟩ := DataW.trod_int he hy; exact ⟨s, by simpa using h1, h3⟩) h
/-- A struct by value: its cells, and the reading of each field. -/
theorem open_struct {r : Reach} {b0 : Nat} {spare : Nat → Bool} {t : TypeId} {fs : Array Field} {v : Value} {d : DataW H} {p : List MemPlace} (hs : P.underlying t = some (.struct fs)) (hv : Value.okWide P w r b0 t v) (h : DataW.Trod enc P w base spare held t v d p) :
    ∃ (cs : List Value) (n : Nat), v = .agg cs.toArray ∧ cs.length = P.cellsOf t ∧ ∀ (i : Nat) (f : Field), fs[i]? = some f → ∃ y, DataW.trod enc P w base spare held n f.type ((cs.drop f.offset).take (P.cellsOf f.type)) = some y := by
  obtain ⟨cs, rfl, hsz⟩ := okWide_struct hs hv
  obtain ⟨fuel, hf⟩ := h
  obtain ⟨xs, n, _, _, hcl, hlen, hg⟩ := DataW.trod_struct hs hf
  refine ⟨cs.toList, n, by simp, by simpa using hsz, fun i f hi => ?_⟩
  have hlt : i < fs.size := (Array.getElem?_eq_some_iff.1 hi).1
  have h1 := hg i f hi
  rw [List.getElem?_eq_getElem (by omega)] at h1
  exact ⟨_, h1⟩
theorem open_struct_in {spare : Nat → Bool} {t : TypeId} {fs : Array Field} {cs : List Value} {fuel : Nat} {x : DataW H × List MemPlace} (hs : P.underlying t = some (.struct fs)) (h : DataW.trod enc P w base spare held fuel t cs = some x) :
    ∃ n : Nat, ∀ (i : Nat) (f : Field), fs[i]? = some f → ∃ y, DataW.trod enc P w base spare held n f.type ((cs.drop f.offset).take (P.cellsOf f.type)) = some y := by
  obtain ⟨xs, n, _, _, hcl, hlen, hg⟩ := DataW.trod_struct hs h
  refine ⟨n, fun i f hi => ?_⟩
  have hlt : i < fs.size := (Array.getElem?_eq_some_iff.1 hi).1
  have h1 := hg i f hi
  rw [List.getElem?_eq_getElem (by omega)] at h1
  exact ⟨_, h1⟩
end
end Go.Proofs.Ytcplnfmcefkehaa

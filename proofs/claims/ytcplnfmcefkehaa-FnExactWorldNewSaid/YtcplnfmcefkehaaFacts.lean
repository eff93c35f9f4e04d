/- What is so of the whole program of this seat, for every claim's closed facts. No condition. -/
import Derived.Test.YtcplnfmcefkehaaCut
namespace Go.Proofs.Ytcplnfmcefkehaa
open Go

set_option maxRecDepth 100000 in
theorem fact_head : ∃ l, Try.prog.initOrder = String.ofList l ∧ headOk l = true := ⟨_, rfl, by kernel_rfl⟩
theorem fact_rows : mapsRowed Try.prog = true := by kernel_rfl
theorem fact_laid : laidOutB Try.prog = true := by kernel_rfl
theorem fact_stops : (Try.prog.stops == []) = true := by kernel_rfl
theorem fact_knobs : (Try.prog.stopKnobs == []) = true := by kernel_rfl
theorem fact_keys : Try.prog.plainKeys = true := by kernel_rfl
theorem fact_heard : Try.prog.stopsHeard = true := by kernel_rfl
theorem fact_later : Try.prog.laysLater = false := by kernel_rfl
theorem fact_reflect : Try.prog.bearsReflect = false := by kernel_rfl
theorem fact_door : Try.prog.doorFits [] = true := by kernel_rfl
theorem fact_enter : Try.prog.mayEnter = true := by
  obtain ⟨r, h⟩ := head_of fact_head
  exact cut_enter h fact_later fact_reflect fact_door
theorem fact_make : Try.prog.make = some .cut := by
  obtain ⟨r, h⟩ := head_of fact_head
  exact cut_make h
theorem fact_final : Try.prog.liftsFinal = false := by
  obtain ⟨r, h⟩ := head_of fact_head
  exact cut_final h
end Go.Proofs.Ytcplnfmcefkehaa

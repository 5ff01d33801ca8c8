/- Closed facts of the card. -/
import Derived.Test.YteahdpjeoeeemaaGreatDoorCards
import Derived.SevenTiedAt
import Derived.KernelRfl
namespace Go.Proofs.YteahdpjeoeeemaaGreatDoor
open Go
set_option maxRecDepth 1000000
theorem c_wf : Rows.streamNilRow.wfByText (OpenSpec.ofChange Rows.streamNilSpec) = true := by kernel_rfl
theorem c_main : Tryz.pinned.checked.prog.mainIs = some (true, "4b097062efb67772aa27302a0ba6cd07dd3cdbd7aa6ae3cf11638be6c4afd6cb".toList) := by kernel_rfl
theorem c_name : Tryz.prog.funcNamed "frisket/frisketlaw38.StreamNil" = some 3 := by kernel_rfl
theorem c_looks : true = Tryz.pinned.checked.prog.looks [] := by kernel_rfl
theorem c_want : Tryz.prog.wantsStandIn 9 = false := by kernel_rfl
theorem goes_false {P : Program} (f : FuncId) (h : P.funcs.any Func.goes = false) : P.goes f = false := by
  unfold Program.goes
  rw [h, Bool.and_false, Bool.or_false, List.any_eq_false]
  intro g _ hg
  cases hx : P.funcs[g]? with
  | none => simp [hx] at hg
  | some fn =>
    rw [hx] at hg
    have hm : fn ∈ P.funcs := Array.mem_of_getElem? hx
    have := (Array.any_eq_false.1 h)
    obtain ⟨i, hi, rfl⟩ := Array.mem_iff_getElem.1 hm
    exact this i hi hg
theorem goesBy_false {P : Program} (c : OpenClaim) (f : FuncId) (hst : c.start = .entering) (hf : P.funcNamed c.func = some f) (h : P.funcs.any Func.goes = false) : false = c.goesBy P := by
  unfold OpenClaim.goesBy Program.goesAt Program.goesFrom
  rw [hf, hst]
  simp [goes_false f h]
theorem c_name' : Tryz.pinned.checked.prog.funcNamed Rows.streamNilRow.func = some 3 := by kernel_rfl
theorem g_all' : Tryz.pinned.checked.prog.funcs.any Func.goes = false := by kernel_rfl
theorem c_goes : false = Rows.streamNilRow.goesBy Tryz.pinned.checked.prog := goesBy_false Rows.streamNilRow 3 rfl c_name' g_all'
theorem c_inst : Tryz.f3.isInstance Tryz.prog Rows.streamNilRow.origin Rows.streamNilRow.targs := of_decide_eq_true (by kernel_rfl)
theorem c_wrap : Tryz.f3.isWrapper Tryz.prog Rows.streamNilRow.wrapper Rows.streamNilRow.mainSum := by unfold Func.isWrapper; first | (rw [if_pos (by decide +kernel)]; kernel_rfl) | (rw [if_neg (by decide +kernel)]; exact ⟨rfl, rfl⟩)
end Go.Proofs.YteahdpjeoeeemaaGreatDoor

/- The law's call returns true whatever its texts are, and turns nothing that was there. -/
import Derived.KernelRfl
import Derived.Test.YteahdpjeoeeemaaGreatDoorSb
import Derived.Test.YteahdpjeoeeemaaGreatDoorSc
open Go Go.Proofs Go.Proofs.YteahdpjeoeeemaaGreatDoor.Ax
set_option maxRecDepth 1000000
set_option linter.unusedVariables false
set_option linter.unusedSimpArgs false
namespace Go.Proofs.YteahdpjeoeeemaaGreatDoor.TT
noncomputable def SS : Sums := sumsOf [specS, specV0, specV1, specV2, specV3, specV4, specT]
theorem SS_ok {σ : Nat → ByteArray} : SumsOk Tryz.prog σ SS := sumsOf_ok fun K h => by
  simp only [List.mem_cons, List.not_mem_nil, or_false] at h
  rcases h with rfl | rfl | rfl | rfl | rfl | rfl | rfl
  · exact ⟨by decide +kernel, specS_ok⟩
  · exact ⟨by decide +kernel, specV0_ok⟩
  · exact ⟨by decide +kernel, specV1_ok⟩
  · exact ⟨by decide +kernel, specV2_ok⟩
  · exact ⟨by decide +kernel, specV3_ok⟩
  · exact ⟨by decide +kernel, specV4_ok⟩
  · exact ⟨by decide +kernel, specT_ok⟩
theorem law_run : onRH (callA Tryz.prog DD SS 100000 200 3 [.atom 0] (hcOf Tryz.prog.globals.size asc.raw [])) (lawChk asc) false = true := by decide +kernel
/-- the law's call: true, whatever the texts, and nothing that was there is turned -/
theorem law_calls {W : World} {c : Array Value} {fz : Nat × Nat} (s : List ByteArray) (hs : s.length = 1) (hW : W.heap[0]? = some (.cells c asc.e fz)) (hc : ∀ ρ, conL ρ (fun i => s.getD i .empty) asc.l = some c.toList) :
    Calls Tryz.prog 3 (s.map Value.string).toArray W (fun e W' => e = .returned (.bool true) ∧ W.grownBy W' none) :=
  law_ok (σ := fun i => s.getD i .empty) hmP hszP DD_ok SS_ok (by decide +kernel) (by decide +kernel) (by decide +kernel) (by decide +kernel) (by decide +kernel) rfl rfl law_run hW hc fun ρ => by
    match s, hs with
    | [s0], _ => rfl
end Go.Proofs.YteahdpjeoeeemaaGreatDoor.TT

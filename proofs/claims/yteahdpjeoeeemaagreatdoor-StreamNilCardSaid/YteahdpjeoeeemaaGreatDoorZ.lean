/- StreamNil, THE TIED CARD: a nil stream has nothing, and refuses: for every text the law returns true, where the package-level variables stand as the program's own text lays them. -/
import Derived.Test.YteahdpjeoeeemaaGreatDoorP
import Derived.Test.YteahdpjeoeeemaaGreatDoorF
import Derived.Test.YteahdpjeoeeemaaGreatDoorG
import Derived.Test.YteahdpjeoeeemaaGreatDoorT
import Derived.Test.YteahdpjeoeeemaaGreatDoorY
import Derived.Test.YteahdpjeoeeemaaGreatDoorCards
import Derived.SevenTiedAt
import Derived.JoinedOf
namespace Go.Proofs.YteahdpjeoeeemaaGreatDoor
open Go
set_option maxRecDepth 1000000
theorem andI {a b : Bool} (h : a = true) (k : b = true) : (a && b) = true := by rw [h, k]; rfl
theorem facts : joinedFacts Tryz.prog 3 Tryz.f3 Rows.streamNilSpec Rows.streamNilRow = true := by
  unfold joinedFacts
  exact (andI (andI (andI (andI (andI (andI (andI (andI (andI (andI (andI (andI (andI (andI (andI (andI (andI (andI (andI (andI (andI (andI (andI (andI (andI (andI (andI (andI (andI (andI (andI j0 f1) j2) j3) j4) j5) j6) j7) j8) f9) f10) f11) f12) j13) j14) j15) j16) j17) j18) j19) j20) j21) j22) j23) j24) j25) j26) j27) j28) j29) j30) j31)
theorem streamNil_holds : Rows.StreamNilSaid :=
  OpenClaim.holds_of_wide 3 Tryz.f3 rfl rfl rfl rfl rfl rfl rfl ⟨rfl, rfl, rfl, rfl, rfl⟩ rfl rfl rfl rfl rfl c_name' Tryz.func3 facts
    c_inst c_wrap (fun os started H enc _ => lifted os started H enc)
theorem params_stand (t : TypeId) (j : Nat) (ht : Tryz.f3.params[j]? = some t) : Tryz.prog.wantsStandIn t = false := by
  rw [Tryz.params3] at ht
  have h9 : t = 9 := by
    rcases j with _ | j
    · simpa using ht.symm
    · simp at ht
  subst h9
  exact c_want
theorem streamNil_card_holds : Rows.StreamNilCardSaid :=
  Claim7.holds_tied_plain_at .later [] [.pinned, .data, .data, .data, .data, .pinned, .sentinel, .sentinel, .data, .listed] true (true, "4b097062efb67772aa27302a0ba6cd07dd3cdbd7aa6ae3cf11638be6c4afd6cb") true
    streamNil_holds (fun _ h => by cases h) c_wf (fun _ h => by cases h) streamNil_row_tie rfl ⟨rfl, rfl⟩ c_main rfl
    (fun f fn hf hfn => by
      obtain rfl : f = 3 := Option.some.inj (c_name'.symm.trans hf) |>.symm
      obtain rfl : fn = Tryz.f3 := (Option.some.inj (Tryz.func3.symm.trans hfn)).symm
      exact ⟨c_looks, fun j t ht => params_stand t j ht⟩)
    c_goes
end Go.Proofs.YteahdpjeoeeemaaGreatDoor

/- A part of an executor of the model over an abstract memory, with the proof that what it says is what the model does: Which functions a function comes to: by a twin that the kernel runs fast. -/
import GoSem.ClaimFn
import Derived.JoinedOf
namespace Go.Proofs.YteahdpjeoeeemaaGreatDoor.Ax
set_option linter.unusedVariables false
set_option linter.unusedSimpArgs false
set_option linter.unnecessarySimpa false

noncomputable section defs
/-- a number at hand, as a numeral -/
def forceM {ρ : Type} (n : Nat) (f : Nat → ρ) : ρ := @Nat.casesOn (fun _ => ρ) n (f 0) (fun k => f (Nat.succ k))
/-- closureVia, with those that were seen as the bits of a number -/
def cloF (to : Nat → List Nat) (n : Nat) : List Nat → Nat → List Nat → List Nat :=
  @Nat.rec (fun _ => List Nat → Nat → List Nat → List Nat) (fun _ _ seen => seen.reverse)
    (fun _ ih todo mask seen => @List.rec Nat (fun _ => List Nat) seen.reverse (fun f todo _ =>
      @Bool.rec (fun _ => List Nat) (forceM (Nat.lor mask (Nat.shiftLeft 1 f)) (fun m => ih (to f ++ todo) m (f :: seen))) (ih todo mask seen) (Nat.beq (Nat.land (Nat.shiftRight mask f) 1) 1)) todo) n
def leadsOf (P : Program) (f : Nat) : List Nat := (P.funcs[f]?).elim [] P.leadsTo
end defs

theorem forceM_eq {ρ : Type} (n : Nat) (f : Nat → ρ) : forceM n f = f n := by cases n <;> rfl
theorem bit_iff (m f : Nat) : Nat.beq (Nat.land (Nat.shiftRight m f) 1) 1 = m.testBit f := by
  have h : (Nat.land (Nat.shiftRight m f) 1) = (m >>> f) &&& 1 := rfl
  rw [h, Nat.testBit]
  have h2 : (m >>> f) &&& 1 = 0 ∨ (m >>> f) &&& 1 = 1 := by
    rw [Nat.and_one_is_mod]; omega
  have h3 : 1 &&& (m >>> f) = (m >>> f) &&& 1 := Nat.and_comm ..
  rcases h2 with e | e
  · rw [h3, e]; rfl
  · rw [h3, e]; rfl
theorem cloF_eq (P : Program) : ∀ (n : Nat) (todo seen : List Nat) (mask : Nat), (∀ f, mask.testBit f = seen.contains f) → cloF (leadsOf P) n todo mask seen = P.closureVia n todo seen
  | 0, todo, seen, mask, h => by
    show seen.reverse = _
    rw [Program.closureVia]
  | n + 1, [], seen, mask, h => by
    show seen.reverse = _
    rw [Program.closureVia]
    simp
  | n + 1, f :: todo, seen, mask, h => by
    show @Bool.rec (fun _ => List Nat) (forceM (Nat.lor mask (Nat.shiftLeft 1 f)) (fun m => cloF (leadsOf P) n (leadsOf P f ++ todo) m (f :: seen))) (cloF (leadsOf P) n todo mask seen) (Nat.beq (Nat.land (Nat.shiftRight mask f) 1) 1) = _
    rw [bit_iff, h f, Program.closureVia]
    cases hc : seen.contains f with
    | true =>
      rw [if_pos rfl]
      exact cloF_eq P n todo seen mask h
    | false =>
      rw [if_neg (by simp)]
      show forceM _ _ = _
      rw [forceM_eq]
      refine cloF_eq P n (leadsOf P f ++ todo) (f :: seen) _ fun g => ?_
      have h1 : Nat.lor mask (Nat.shiftLeft 1 f) = mask ||| (1 <<< f) := rfl
      rw [h1, Nat.testBit_or, h g, List.contains_cons]
      have h2 : (1 <<< f).testBit g = (g == f) := by
        rw [Nat.one_shiftLeft, Nat.testBit_two_pow]
        by_cases e : f = g
        · subst e; simp
        · have e' : ¬ g = f := fun h => e h.symm
          simp [e, e']
      rw [h2, Bool.or_comm]
theorem closure_fast {P : Program} {f n : Nat} {L : List Nat} (hn : (1 + (P.funcs.toList.map fun g => (P.leadsTo g).length + 1).sum) = n) (h : cloF (leadsOf P) n [f] 0 [] = L) : P.closure f = L := by
  unfold Program.closure
  rw [hn, ← cloF_eq P n [f] [] 0 (fun f => by simp)]
  exact h
theorem laidOut_fast {P : Program} (h1 : (List.range P.types.size).all (rowFine P) = true) (h2 : (P.globals.toList.all fun g => decide (g.type < P.types.size)) = true) (h3 : (P.funcs.toList.all fun f => f.params.toList.all fun t => decide (t < P.types.size)) = true) : laidOutB P = true := by
  unfold laidOutB
  rw [h1]
  have e2 : P.globals.all (fun g => decide (g.type < P.types.size)) = true := by rw [← Array.all_toList]; exact h2
  have e3 : P.funcs.all (fun f => f.params.all fun t => decide (t < P.types.size)) = true := by
    rw [← Array.all_toList]
    refine List.all_eq_true.2 fun f hf => ?_
    have := List.all_eq_true.1 h3 f hf
    rw [← Array.all_toList]
    exact this
  rw [e2, e3]; rfl
end Go.Proofs.YteahdpjeoeeemaaGreatDoor.Ax

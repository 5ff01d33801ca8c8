/- A part of an executor of the model over an abstract memory, with the proof that what it says is what the model does: Code: all but the ranges over functions. Ranges over functions. Ranges over functions; all code; functions; the executor as a whole. Functions; the executor as a whole. Runs carried from a small memory to any other: renumbering. Runs carried from a small memory to any other: those that leave what was there as it was. Runs carried from an empty memory to any other: those that only lay new blocks. Deferred calls that recover nothing. -/
import Derived.Test.YteahdpjeoeeemaaGreatDoorAx6
import Derived.RangeFuncLeaves
import Derived.RecoverIn
namespace Go.Proofs.YteahdpjeoeeemaaGreatDoor.Ax
set_option linter.unusedVariables false
set_option linter.unusedSimpArgs false
set_option linter.unnecessarySimpa false

def CodeOk (P : Program) (σ : Nat → ByteArray) (nt : Nat) (c : Code) : Prop :=
  ∀ {E : Env} {ρ : Rho} {h h' : AH} {w : World} {r r' : Rg} {a : Act} {e : AEx} {q : Option Nat} {k : Nat}, EnvOk P σ ρ E → St P σ nt ρ h w r a → (q = none ∨ noDefer c = true) → (cCode P nt c).run E k r h = .ok e r' h' →
    ∀ {n : Nat} {Q : Exit → Act → World → Prop}, (∀ (ρ1 : Rho) (w1 : World) (a1 : Act), Ext P.globals.size σ ρ h w ρ1 h' w1 → St P σ nt ρ1 h' w1 r' a1 → Q (exOf e) a1 w1) → c.wpIn (rnd q) n P Q a w

section
variable {P : Program} {σ : Nat → ByteArray} {nt : Nat}

theorem code_skip : CodeOk P σ nt .skip := by
  intro E ρ h h' w r r' a e q k hE S hq ev n Q hQ
  cases ev
  exact wpIn_skip (hQ ρ w a (Ext.refl S.rel) S)
theorem code_exit {id : Nat} : CodeOk P σ nt (.exit id) := by
  intro E ρ h h' w r r' a e q k hE S hq ev n Q hQ
  cases ev
  exact wpIn_exit (hQ ρ w a (Ext.refl S.rel) S)
theorem code_ret : CodeOk P σ nt .ret := by
  intro E ρ h h' w r r' a e q k hE S hq ev n Q hQ
  cases ev
  exact wpIn_ret (hQ ρ w a (Ext.refl S.rel) S)
theorem code_region {id : Nat} {ops : Array Oper} : CodeOk P σ nt (.region id ops false) := by
  intro E ρ h h' w r r' a e q k hE S hq ev n Q hQ
  refine wpIn_region ?_
  have hq' : q = none ∨ ∀ o ∈ ops.toList, ∀ c, o.op ≠ .defer c := hq.imp _root_.id fun h o ho c hc => by
    have h : (ops.toList.all fun o => match o.op with | .defer _ => false | _ => true) = true := h
    have := List.all_eq_true.1 h o ho
    rw [hc] at this; cases this
  have := ops_ok (P := P) (σ := σ) (nt := nt) (ops := ops) ops.toList 0 rfl hE S hq' ev (n := n) (Q := Q) hQ
  rw [Array.length_toList, ← List.range_eq_range'] at this
  exact this
theorem code_draw (hm : P.follows .mixedOrders = true) {id : Nat} {ops : Array Oper} : CodeOk P σ nt (.region id ops true) := by
  intro E ρ h h' w r r' a e q k hE S hq ev n Q hQ
  exact draw_ok hm hE S ev hQ
theorem code_seq {x y : Code} (hx : CodeOk P σ nt x) (hy : CodeOk P σ nt y) : CodeOk P σ nt (.seq x y) := by
  intro E ρ h h' w r r' a e q k hE S hq ev n Q hQ
  have hq1 : q = none ∨ noDefer x = true := hq.imp id fun h => (Bool.and_eq_true _ _ ▸ h : noDefer x = true ∧ noDefer y = true).1
  have hq2 : q = none ∨ noDefer y = true := hq.imp id fun h => (Bool.and_eq_true _ _ ▸ h : noDefer x = true ∧ noDefer y = true).2
  obtain ⟨e1, r1, h1, hr, e2⟩ := onXR_inv (show onXR ((cCode P nt x).run E k r h) (fun e r h => @AEx.casesOn (fun _ => XR) e ((cCode P nt y).run E k r h) (fun id => .ok (.exit id) r h) (.ok .ret r h)) .no = .ok e r' h' from ev) (by simp)
  refine wpIn_seq (hx hE S hq1 hr fun ρ1 w1 a1 X1 S1 => ?_)
  cases e1 with
  | normal => exact hy (hE.up (X1.le S.rel)) S1 hq2 e2 fun ρ2 w2 a2 X2 S2 => hQ ρ2 w2 a2 (X1.trans S.rel X2) S2
  | exit id => cases e2; exact hQ ρ1 w1 a1 X1 S1
  | ret => cases e2; exact hQ ρ1 w1 a1 X1 S1
theorem code_cond {c : Operand} {x y : Code} (hx : CodeOk P σ nt x) (hy : CodeOk P σ nt y) : CodeOk P σ nt (.cond c x y) := by
  intro E ρ h h' w r r' a e q k hE S hq ev n Q hQ
  have hq1 : q = none ∨ noDefer x = true := hq.imp id fun h => (Bool.and_eq_true _ _ ▸ h : noDefer x = true ∧ noDefer y = true).1
  have hq2 : q = none ∨ noDefer y = true := hq.imp id fun h => (Bool.and_eq_true _ _ ▸ h : noDefer x = true ∧ noDefer y = true).2
  unfold cCode at ev
  cases hc : okOpd P nt c with
  | false => rw [hc] at ev; cases ev
  | true =>
    rw [hc] at ev
    obtain ⟨b, hb, e2⟩ := onBool_inv (show onBool ((cOpd c).run r) (fun t => sw t ((cCode P nt x).run E k r h) ((cCode P nt y).run E k r h)) .no = .ok e r' h' from ev) (by simp)
    have h1 := S.cx.opd hc
    rw [hb] at h1
    refine wpIn_cond (t := b) (by simpa [con] using h1.symm) ?_
    cases b with
    | true => exact hx hE S hq1 e2 hQ
    | false => exact hy hE S hq2 e2 hQ
theorem code_block {id : Nat} {c : Code} (hc : CodeOk P σ nt c) : CodeOk P σ nt (.block id c) := by
  intro E ρ h h' w r r' a e q k hE S hq ev n Q hQ
  have hq1 : q = none ∨ noDefer c = true := hq
  obtain ⟨e1, r1, h1, hr, e2⟩ := onXR_inv (show onXR ((cCode P nt c).run E k r h) (fun e r h => @AEx.casesOn (fun _ => XR) e (.ok .normal r h) (fun id' => sw (Nat.beq id' id) (.ok .normal r h) (.ok (.exit id') r h)) (.ok .ret r h)) .no = .ok e r' h' from ev) (by simp)
  refine wpIn_block (hc hE S hq1 hr fun ρ1 w1 a1 X1 S1 => ?_)
  cases e1 with
  | normal => cases e2; exact hQ ρ1 w1 a1 X1 S1
  | exit id' =>
    show (if id' = id then Q .normal a1 w1 else Q (.exit id') a1 w1)
    have e2 : sw (Nat.beq id' id) (XR.ok .normal r1 h1) (.ok (.exit id') r1 h1) = .ok e r' h' := e2
    rw [beq_dec, sw_if] at e2
    by_cases hid : id' = id
    · simp only [hid, decide_true, if_true] at e2
      rw [if_pos hid]; cases e2; exact hQ ρ1 w1 a1 X1 S1
    · simp only [hid, decide_false, Bool.false_eq_true, if_false] at e2
      rw [if_neg hid]; cases e2; exact hQ ρ1 w1 a1 X1 S1
  | ret => cases e2; exact hQ ρ1 w1 a1 X1 S1

/-- the least number of which something holds -/
theorem least {p : Nat → Prop} : ∀ {n : Nat}, p n → ∃ m, p m ∧ ∀ k, p k → m ≤ k := by
  intro n
  induction n using Nat.strongRecOn with
  | _ n ih =>
    intro hn
    by_cases h : ∃ k, k < n ∧ p k
    · obtain ⟨k, hk, hp⟩ := h
      exact ih k hk hp
    · exact ⟨n, hn, fun k hk => by
        rcases Nat.lt_or_ge k n with h1 | h1
        · exact absurd ⟨k, h1, hk⟩ h
        · exact h1⟩
open Classical in
noncomputable def leastOf (p : Nat → Prop) : Nat := if h : ∃ m, p m ∧ ∀ k, p k → m ≤ k then h.choose else 0
theorem leastOf_spec {p : Nat → Prop} {n : Nat} (h : p n) : p (leastOf p) ∧ ∀ k, p k → leastOf p ≤ k := by
  have h1 : ∃ m, p m ∧ ∀ k, p k → m ≤ k := least h
  unfold leastOf
  rw [dif_pos h1]
  exact h1.choose_spec
theorem code_loop {c : Code} (hc : CodeOk P σ nt c) : CodeOk P σ nt (.loop c) := by
  intro E ρ h h' w r r' a e q k hE S hq ev n Q hQ
  have hq1 : q = none ∨ noDefer c = true := hq
  let step : (Rg → AH → XR) → Rg → AH → XR := fun ih r h => onXR ((cCode P nt c).run E k r h) (fun e r h => @AEx.casesOn (fun _ => XR) e (ih r h) (fun id => .ok (.exit id) r h) (.ok .ret r h)) .no
  have ev : iter2 (fun _ _ => XR.no) step k r h = .ok e r' h' := ev
  let J : Act → World → Nat → Prop := fun a1 w1 m => ∃ ρ1 h1 r1, Ext P.globals.size σ ρ h w ρ1 h1 w1 ∧ St P σ nt ρ1 h1 w1 r1 a1 ∧ iter2 (fun _ _ => XR.no) step m r1 h1 = .ok e r' h'
  refine wpIn_loop (fun a1 w1 => ∃ m, J a1 w1 m) (fun a1 w1 => leastOf (J a1 w1)) ⟨k, ρ, h, r, Ext.refl S.rel, S, ev⟩ ?_
  rintro a1 w1 ⟨m0, hm0⟩
  obtain ⟨hJ, _⟩ := leastOf_spec hm0
  obtain ⟨ρ1, h1, r1, X1, S1, e1⟩ := hJ
  cases hm : leastOf (J a1 w1) with
  | zero => rw [hm] at e1; cases e1
  | succ m =>
    rw [hm] at e1
    obtain ⟨e2, r2, h2, hr, e3⟩ := onXR_inv (show onXR ((cCode P nt c).run E k r1 h1) (fun e r h => @AEx.casesOn (fun _ => XR) e (iter2 (fun _ _ => XR.no) step m r h) (fun id => .ok (.exit id) r h) (.ok .ret r h)) .no = .ok e r' h' from e1) (by simp)
    refine hc (hE.up (X1.le S.rel)) S1 hq1 hr fun ρ2 w2 a2 X2 S2 => ?_
    cases e2 with
    | normal =>
      have hJ2 : J a2 w2 m := ⟨ρ2, h2, r2, X1.trans S.rel X2, S2, e3⟩
      refine ⟨⟨m, hJ2⟩, ?_⟩
      have := (leastOf_spec hJ2).2 m hJ2
      show leastOf (J a2 w2) < m + 1
      omega
    | exit id => cases e3; exact hQ ρ2 w2 a2 (X1.trans S.rel X2) S2
    | ret => cases e3; exact hQ ρ2 w2 a2 (X1.trans S.rel X2) S2
end
end Go.Proofs.YteahdpjeoeeemaaGreatDoor.Ax

namespace Go.Proofs.YteahdpjeoeeemaaGreatDoor.Ax
set_option linter.unusedVariables false
set_option linter.unusedSimpArgs false
set_option linter.unnecessarySimpa false

section
variable {P : Program} {σ : Nat → ByteArray} {nt : Nat}

theorem conL_snoc {ρ : Rho} {l : List AV} {xs : List Value} (h : conL ρ σ l = some xs) : xs.length = l.length := conL_length h
/-- the parameters of a round -/
theorem pars_ok {ρ : Rho} : ∀ (ps : List Nat) (args : List AV) (xs : List Value) (r r1 : Rg) (a : Act), ps.all (Nat.blt · nt) = true → conL ρ σ args = some xs → RegOk ρ σ nt r a → (cPars ps).run args r = some r1 →
    args.length = ps.length ∧ r1.d = r.d ∧ RegOk ρ σ nt r1 { a with tmps := (ps.zip xs).foldl (fun t (p, v) => t.setIfInBounds p v) a.tmps }
  | [], args, xs, r, r1, a, _, hc, H, h => by
    cases args with
    | nil =>
      cases hc
      cases h
      exact ⟨rfl, rfl, H⟩
    | cons v l => cases h
  | t :: ps, args, xs, r, r1, a, hp, hc, H, h => by
    rw [List.all_cons, Bool.and_eq_true] at hp
    cases args with
    | nil => cases h
    | cons v l =>
      obtain ⟨x, xt, hx, hxt, rfl⟩ := conL_cons.1 hc
      have ht : t < nt := by simpa [blt_dec] using hp.1
      have h1 : (cPars ps).run l ((setD (some t)).run v r) = some r1 := h
      have H1 := reg_put (dst := some t) H hx (fun d hd => by cases hd; exact ht)
      obtain ⟨e1, e2, e3⟩ := pars_ok ps l xt _ r1 (a.put (some t) x) hp.2 hxt H1 h1
      exact ⟨by simp [e1], by rw [e2, setD_d], e3⟩

theorem live_loop {ρ : Rho} {h : AH} {w : World} {l : Nat} {p : Place} {st : Nat} {pd : AEx} (R : Rel P.globals.size ρ σ h w) (hp : ρ l = some p) (hb : hget h l = .loop st pd) :
    Live h l ∧ p.blk < w.heap.size ∧ ∃ rec, p.info = some rec ∧ w.heap[p.blk]? = some (.loop { rec with state := loopSt st, pending := loopPd pd }) := by
  have hl : Live h l := ⟨Nat.lt_of_lt_of_le (R.dom l p hp) R.nx, by rw [hb]; simp⟩
  obtain ⟨q, hq, hlt, hB⟩ := R.live l hl
  rw [hp] at hq; cases hq
  rw [hb] at hB
  exact ⟨hl, hlt, hB⟩
/-- a loop's record turned -/
theorem loop_turn {ρ : Rho} {h : AH} {w : World} {l : Nat} {p : Place} {st : Nat} {pd : AEx} {rec : Loop} (R : Rel P.globals.size ρ σ h w) (hp : ρ l = some p) (hl : Live h l) (hlt : p.blk < w.heap.size) (hi : p.info = some rec) (st' : Nat) (pd' : AEx) :
    Ext P.globals.size σ ρ h w ρ (hput h l (.loop st' pd')) (w.putObj p.blk (.loop { rec with state := loopSt st', pending := loopPd pd' })) := by
  refine Ext.turn R hl hp _ _ (by simp) (fun k hk => World.putObj_heap_other hk) ⟨rec, hi, World.putObj_heap_same hlt⟩ rfl rfl rfl
theorem Ext.st {ρ ρ' : Rho} {h h' : AH} {w w' : World} {r : Rg} {a : Act} (S : St P σ nt ρ h w r a) (X : Ext P.globals.size σ ρ h w ρ' h' w') : St P σ nt ρ' h' w' r a :=
  ⟨X.rel, S.reg.mono (X.le S.rel), S.dfr.mono (X.le S.rel)⟩

/-- a round -/
theorem round_ok {ps : Array Tmp} {as body : Code} (ha : CodeOk P σ nt as) (hb : CodeOk P σ nt body) (hna : noDefer as = true) (hnb : noDefer body = true) (hps : ps.toList.all (Nat.blt · nt) = true)
    {E : Env} {k l : Nat} {r : Rg} {a : Act} {ρ0 ρ : Rho} {hA hB : AH} {w : World} {args : List AV} {xs : List Value} {v : AV} {p : Place} {fn : FuncId} {dfs : Nat}
    (hE : EnvOk P σ ρ E) (hreg : RegOk ρ σ nt r a) (R : Rel P.globals.size ρ σ hA w) (hargs : conL ρ σ args = some xs) (hp : ρ l = some p)
    (hinfo : p.info = some { state := .ready, pending := none, fn, tmps := a.tmps, params := ps, assign := as, body, defers := dfs })
    (ev : roundV l (cPars ps.toList).run (cCode P nt as).run (cCode P nt body).run E k r args hA = .ok v hB) :
    ∃ (f : FuncId) (tmps : Array Value) (as body : Code), (Instr.yield p.blk xs.toArray).run P w = .ok (.round p.blk f tmps as body) w ∧ ∀ n, RoundIn Fence.wide n P p.blk f tmps as body w (Back P σ ρ hA w v hB) := by
  unfold roundV at ev
  obtain ⟨st0, pd0, hl0, ev⟩ := onLoop_inv ev (by simp)
  obtain ⟨r1, hr1, ev⟩ := onOpt_inv ev (by simp)
  obtain ⟨e2, r2, h2, hra, ev⟩ := onXR_inv ev (by simp)
  obtain ⟨hlen, hd1, H1⟩ := pars_ok ps.toList args xs ⟨r.t, []⟩ r1 { a with defers := [] } hps hargs hreg.defers hr1
  obtain ⟨hlv, hlt, rec, hrec, hheap⟩ := live_loop R hp hl0
  rw [hinfo] at hrec; cases hrec
  have hsz : xs.toArray.size = ps.size := by
    have := conL_length hargs
    simp [this, hlen]
  refine ⟨fn, _, as, body, run_yield hheap hsz, fun n => ?_⟩
  have htm : (ps.zip xs.toArray).foldl (fun tmps (t, a) => tmps.setIfInBounds t a) a.tmps = (ps.toList.zip xs).foldl (fun t (p, v) => t.setIfInBounds p v) a.tmps := by
    rw [← Array.foldl_toList, Array.toList_zip]
  refine roundIn_of_wpIn trivial ?_
  have S1 : St P σ nt ρ hA w r1 { tmps := (ps.zip xs.toArray).foldl (fun tmps (t, a) => tmps.setIfInBounds t a) a.tmps, defers := [] } := by
    refine ⟨R, by rw [htm]; exact H1, ?_⟩
    rw [hd1]; exact trivial
  refine ha (q := some p.blk) hE S1 (.inr hna) hra fun ρ2 w2 a2 X2 S2 => ?_
  cases e2 with
  | exit id => cases ev
  | ret => cases ev
  | normal =>
    obtain ⟨st2, pd2, hl2, ev⟩ := onLoop_inv ev (by simp)
    obtain ⟨hst2, ev⟩ := sw_inv ev (by simp)
    have hst2 := Nat.eq_of_beq_eq_true hst2
    subst hst2
    obtain ⟨e3, r3, h3, hrb, ev⟩ := onXR_inv ev (by simp)
    have hp2 := X2.le R l p hp
    obtain ⟨hlv2, hlt2, rec2, hrec2, hheap2⟩ := live_loop X2.rel hp2 hl2
    rw [hinfo] at hrec2; cases hrec2
    refine ⟨_, run_beginRound hheap2 rfl, ?_⟩
    have X3 := loop_turn (st := 0) (pd := pd2) X2.rel hp2 hlv2 hlt2 hinfo 1 pd2
    have S3 := Ext.st S2 X3
    have hle3 : ρ.le ρ2 := X2.le R
    refine hb (q := some p.blk) (hE.up hle3) S3 (.inr hnb) hrb fun ρ4 w4 a4 X4 S4 => ?_
    obtain ⟨st4, pd4, hl4, ev⟩ := onLoop_inv ev (by simp)
    obtain ⟨hst4, ev⟩ := sw_inv ev (by simp)
    have hp4 := X4.le X3.rel l p hp2
    obtain ⟨hlv4, hlt4, rec4, hrec4, hheap4⟩ := live_loop X4.rel hp4 hl4
    rw [hinfo] at hrec4; cases hrec4
    have X24 := (X2.trans R X3).trans R X4
    cases e3 with
    | normal =>
      cases ev
      refine ⟨_, _, run_endRound none hheap4, .bool true, ρ4, rfl, X24.trans R (loop_turn (st := st4) (pd := pd4) X4.rel hp4 hlv4 hlt4 hinfo 0 .normal), rfl⟩
    | exit id =>
      cases ev
      refine ⟨_, _, run_endRound (some (.exit id)) hheap4, .bool false, ρ4, rfl, X24.trans R (loop_turn (st := st4) (pd := pd4) X4.rel hp4 hlv4 hlt4 hinfo 2 (.exit id)), rfl⟩
    | ret =>
      cases ev
      refine ⟨_, _, run_endRound (some .ret) hheap4, .bool false, ρ4, rfl, X24.trans R (loop_turn (st := st4) (pd := pd4) X4.rel hp4 hlv4 hlt4 hinfo 2 .ret), rfl⟩
end
end Go.Proofs.YteahdpjeoeeemaaGreatDoor.Ax

namespace Go.Proofs.YteahdpjeoeeemaaGreatDoor.Ax
set_option linter.unusedVariables false
set_option linter.unusedSimpArgs false
set_option linter.unnecessarySimpa false

section
variable {P : Program} {σ : Nat → ByteArray} {nt : Nat}

theorem code_range {f : Operand} {ps : Array Tmp} {as body : Code} (ha : CodeOk P σ nt as) (hb : CodeOk P σ nt body) : CodeOk P σ nt (.rangeFunc f ps as body) := by
  intro E ρ h h' w r r' a e q k hE S hq ev n Q hQ
  have hq : q = none := hq.resolve_right (by intro h; cases h)
  subst hq
  unfold cCode at ev
  cases hc : okOpd P nt f && noDefer as && noDefer body && ps.toList.all (Nat.blt · nt) with
  | false => rw [hc] at ev; cases ev
  | true =>
  rw [hc] at ev
  simp only [Bool.and_eq_true] at hc
  obtain ⟨⟨⟨hf, hna⟩, hnb⟩, hps⟩ := hc
  have ev : rangeV (cPars ps.toList).run (cCode P nt as).run (cCode P nt body).run E k r h ((cOpd f).run r) = .ok e r' h' := ev
  have h1 := S.cx.opd hf
  unfold rangeV at ev
  obtain ⟨g, first, cap, hv, ev⟩ := onFunc_inv ev (by simp)
  obtain ⟨hlt, ev⟩ := sw_inv ev (by simp)
  rw [andB_eq, Bool.and_eq_true, blt_dec, blt_dec, decide_eq_true_eq, decide_eq_true_eq] at hlt
  obtain ⟨hg, hroom⟩ := hlt
  obtain ⟨vres, h2, hcall, ev⟩ := onRH_inv ev (by simp)
  rw [hv] at h1
  obtain ⟨xs, ys, hxs, hys, hX⟩ := con_func h1
  refine wpIn_rangeFunc fun fn _ => ?_
  -- the two blocks
  generalize hl : h.nx = l at *
  let h1' : AH := ⟨Hp.set 5 l (.loop 0 .normal) (Hp.set 5 (Nat.succ l) .defd h.hp), Nat.succ (Nat.succ l)⟩
  let rec0 : Loop := { state := .ready, pending := none, fn, tmps := a.tmps, params := ps, assign := as, body, defers := w.heap.size }
  let pd : Place := ⟨w.heap.size, 0, 0, none⟩
  let pl : Place := ⟨w.heap.size + 1, 0, 0, some rec0⟩
  let W1 := w.alloc (.deferred (some []))
  let W2 := W1.alloc (.loop rec0)
  have hW1 : W1.heap.size = w.heap.size + 1 := World.size_alloc ..
  have hl2 : Nat.succ l < most := hroom
  have hm2 : l + 2 ≤ most := hroom
  have hm1 : l + 1 < most := hroom
  have R0 : RelF P.globals.size ρ σ (hget h) (l + 2) w := RelF.of S.rel (by omega) hm2
  have R1 := R0.alloc (id := l + 1) (obj := .deferred (some [])) (b := .defd) (p := pd) (w' := W1) (by omega) (S.rel.fresh_none (by omega)) rfl rfl rfl
  have R2 := R1.alloc (id := l) (obj := .loop rec0) (b := .loop 0 .normal) (p := pl) (w' := W2) (by omega) (by unfold Rho.put; rw [if_neg (by omega)]; exact S.rel.fresh_none (by omega)) hW1.symm ⟨rec0, rfl, rfl⟩ rfl
  have F0 : FrF ρ h w ρ (hget h) (l + 2) w := FrF.start (by omega) rfl rfl rfl rfl
  have F1 := F0.alloc (id := l + 1) (obj := .deferred (some [])) (b := .defd) (p := pd) (w' := W1) (by omega) rfl rfl rfl rfl rfl
  have F2 := F1.alloc (id := l) (obj := .loop rec0) (b := .loop 0 .normal) (p := pl) (w' := W2) (by omega) hW1.symm rfl rfl rfl rfl
  have hget1 : ∀ i, i < most → hget h1' i = if i = l then .loop 0 .normal else if i = l + 1 then .defd else hget h i := by
    intro i hi
    show hget ⟨Hp.set 5 l (.loop 0 .normal) (Hp.set 5 (Nat.succ l) .defd h.hp), Nat.succ (Nat.succ l)⟩ i = _
    rw [hget_set ⟨Hp.set 5 (Nat.succ l) .defd h.hp, 0⟩ l i _ _ (by omega) hi]
    by_cases h3 : i = l
    · rw [if_pos h3, if_pos h3]
    · rw [if_neg h3, if_neg h3, hget_set h (Nat.succ l) i _ _ hl2 hi]
  have hsub : Sub h1' (fun i => if i = l then .loop 0 .normal else if i = l + 1 then .defd else hget h i) := fun i hi _ => hget1 i hi
  have RA := R2.sub hsub rfl (fun i hi hm => by
    rw [hget1 i hm, if_neg (by omega), if_neg (by omega)]
    exact S.rel.dead i (by omega) hm)
  have X1 : Ext P.globals.size σ ρ h w ((ρ.put (l + 1) pd).put l pl) h1' W2 := ⟨RA, F2.sub hsub rfl S.rel.nx⟩
  have hle := X1.le S.rel
  have hpl : ((ρ.put (l + 1) pd).put l pl) l = some pl := Rho.put_same ..
  have hpd : ((ρ.put (l + 1) pd).put l pl) (l + 1) = some pd := by
    unfold Rho.put; rw [if_neg (by omega), if_pos rfl]
  generalize hρ1 : (ρ.put (l + 1) pd).put l pl = ρ1 at *
  -- the calls
  let call' : CallF := fun f' args h' => sw (Nat.beq f' (yldNo l)) (roundV l (cPars ps.toList).run (cCode P nt as).run (cCode P nt body).run E k r args h') (E.call f' args h')
  have hcok : CallOk P σ ρ1 call' := by
    refine ⟨?_, ?_⟩
    · intro f' args hh v hh' hf' hev
      have hne : Nat.beq f' (yldNo l) = false := by
        rw [beq_dec, decide_eq_false_iff_not]
        intro e
        have : f' = 1048576 + l := e
        omega
      have hev : sw (Nat.beq f' (yldNo l)) (roundV l (cPars ps.toList).run (cCode P nt as).run (cCode P nt body).run E k r args hh) (E.call f' args hh) = .ok v hh' := hev
      rw [hne, sw_false] at hev
      exact (hE.call.fn.up hle) f' args hh v hh' hf' hev
    · intro l' args hh v hh' hev ρ2 w2 zs hρ2 hR2 hzs p2 hp2
      have hev : sw (Nat.beq (yldNo l') (yldNo l)) (roundV l (cPars ps.toList).run (cCode P nt as).run (cCode P nt body).run E k r args hh) (E.call (yldNo l') args hh) = .ok v hh' := hev
      by_cases hll : l' = l
      · subst hll
        rw [beq_dec, decide_eq_true rfl, sw_true] at hev
        have : p2 = pl := by
          have := hρ2 _ _ hpl
          rw [hp2] at this; exact Option.some.inj this
        subst this
        exact round_ok (a := a) (ρ0 := ρ) (fn := fn) (dfs := w.heap.size) ha hb hna hnb hps (hE.up (hle.trans hρ2)) (S.reg.mono (hle.trans hρ2)) hR2 hzs hp2 rfl hev
      · have hne : Nat.beq (yldNo l') (yldNo l) = false := by
          rw [beq_dec, decide_eq_false_iff_not]
          intro e
          have : 1048576 + l' = 1048576 + l := e
          omega
        rw [hne, sw_false] at hev
        exact (hE.call.yld.up hle) l' args hh v hh' hev ρ2 w2 zs hρ2 hR2 hzs p2 hp2
  rw [catX_eq] at hcall
  obtain ⟨hcf, hcc⟩ := hE.cw ρ1 call' hle hcok g _ h1' vres h2 hg hcall
  have hargs : conL ρ1 σ (first ++ .yld l :: cap) = some (xs ++ (.func (.yield pl.blk) #[] #[]) :: ys) :=
    conL_append (conL_mono hle _ _ hxs) (conL_cons.2 ⟨_, _, by simp only [con, hpl], conL_mono hle _ _ hys, rfl⟩)
  have hcalls := hcc ρ1 W2 _ (Rho.le.refl _) RA hargs
  refine ⟨w.heap.size + 1, [{ target := .collected w.heap.size, args := #[] }], W2, { target := .fn (.func g) ys.toArray, args := xs.toArray ++ #[.func (.yield (w.heap.size + 1)) #[] #[]] }, W2, g,
    (xs ++ (.func (.yield pl.blk) #[] #[]) :: ys).toArray, W2, run_enterLoop_outer .., ?_, fun _ _ => trivial, ?_, (fun hd => by cases hd), ?_⟩
  · simp only [resolve, hX]
    simp [Deferred.ofValue]
    rfl
  · have hev : (xs.toArray ++ #[Value.func (.yield (w.heap.size + 1)) #[] #[]]) ++ ys.toArray = (xs ++ (Value.func (.yield pl.blk) #[] #[]) :: ys).toArray := by
      apply Array.ext'; simp [pl]
    simp only [invoke, hev, hcf]
  · have h5 : CallsIn (rnd none) (n - 1) P g _ W2 _ := (callsIn_wide (n := n - 1)).2 hcalls
    refine CallsIn.mono h5 fun e' w' hB => ?_
    obtain ⟨x, ρ2, rfl, X2, hx⟩ := hB
    obtain ⟨st, pdg, hlp, ev⟩ := onLoop_inv ev (by simp)
    have hp2 := X2.le RA l pl hpl
    obtain ⟨hlv, hlt2, rec2, hrec2, hheap⟩ := live_loop X2.rel hp2 hlp
    cases hrec2
    have hstb : Nat.beq st 1 = false := by
      cases hs : Nat.beq st 1 with
      | false => rfl
      | true => rw [hs] at ev; cases ev
    rw [hstb, sw_false] at ev
    have hnb1 : loopSt st ≠ .busy := by
      match st, hstb with
      | 0, _ => simp [loopSt]
      | 1, h => cases h
      | 2, _ => simp [loopSt]
      | k + 3, _ => simp [loopSt]
    cases ev
    have X3 := loop_turn (st := st) (pd := e) X2.rel hp2 hlv hlt2 rfl 3 e
    have X13 := (X1.trans S.rel X2).trans S.rel X3
    have S3 : St P σ nt ρ2 (hput h2 l (.loop 3 e)) (w'.putObj pl.blk (.loop { rec0 with state := loopSt 3, pending := loopPd e })) ⟨r.t, .mark (Nat.succ l) :: r.d⟩ { a with defers := [{ target := .collected w.heap.size, args := #[] }] ++ a.defers } := by
      have hle3 := X13.le S.rel
      refine ⟨X13.rel, (S.reg.mono hle3).defers, ?_, S.dfr.mono hle3⟩
      exact .inr ⟨l + 1, pd, rfl, X2.le RA _ _ hpd, rfl⟩
    refine ⟨loopPd e, _, run_endLoop hheap hnb1, ?_⟩
    have hfin := hQ ρ2 _ _ X13 S3
    cases e with
    | normal => exact hfin
    | exit id => exact wpIn_exit hfin
    | ret => exact wpIn_ret hfin
theorem code_ok (hm : P.follows .mixedOrders = true) : ∀ c : Code, CodeOk P σ nt c
  | .skip => code_skip
  | .region _ _ false => code_region
  | .region _ _ true => code_draw hm
  | .seq a b => code_seq (code_ok hm a) (code_ok hm b)
  | .cond _ a b => code_cond (code_ok hm a) (code_ok hm b)
  | .block _ c => code_block (code_ok hm c)
  | .loop c => code_loop (code_ok hm c)
  | .rangeFunc _ _ as body => code_range (code_ok hm as) (code_ok hm body)
  | .exit _ => code_exit
  | .ret => code_ret
  | .label _ => fun _ _ _ ev => by cases ev
  | .goto _ => fun _ _ _ ev => by cases ev
  | .scope _ => fun _ _ _ ev => by cases ev
  | .refuse _ => fun _ _ _ ev => by cases ev
end
end Go.Proofs.YteahdpjeoeeemaaGreatDoor.Ax

namespace Go.Proofs.YteahdpjeoeeemaaGreatDoor.Ax
set_option linter.unusedVariables false
set_option linter.unusedSimpArgs false
set_option linter.unnecessarySimpa false

section
variable {P : Program} {σ : Nat → ByteArray} {nt : Nat}

/-! results -/
def resOne (tmps : Array Value) : ResultVar → Sem Value
  | .tmp t => pure (tmps.getD t undef)
  | .cell a t => do loadVar t (← asAddr (tmps.getD a undef))
theorem res_ok {ρ : Rho} {h : AH} {w : World} {r : Rg} {a : Act} (R : Rel P.globals.size ρ σ h w) (H : RegOk ρ σ nt r a) : ∀ (l : List ResultVar) (vs : List AV), (cRes P nt l).run r h = some vs →
    ∃ xs, conL ρ σ vs = some xs ∧ (l.mapM (resOne a.tmps)).run P w = .ok xs w
  | [], vs, e => by
    cases e
    exact ⟨[], rfl, rfl⟩
  | .tmp t :: l, vs, e => by
    unfold cRes at e
    cases ht : Nat.blt t nt with
    | false => rw [ht] at e; cases e
    | true =>
      rw [ht] at e
      obtain ⟨us, hus, e1⟩ := onOpt_inv (show onOpt ((cRes P nt l).run r h) (fun vs => some ((cOpd (.tmp t)).run r :: vs)) none = some vs from e) (by simp)
      cases e1
      obtain ⟨xs, hxs, hrun⟩ := res_ok R H l us hus
      rw [blt_dec, decide_eq_true_eq] at ht
      refine ⟨a.tmps.getD t undef :: xs, conL_cons.2 ⟨_, _, by rw [cOpd_tmp]; exact H.reg t ht, hxs, rfl⟩, ?_⟩
      simp only [List.mapM_cons, resOne, Sem.run_bind, Sem.run_pure, Result.andThen_ok, hrun]
  | .cell t ty :: l, vs, e => by
    unfold cRes at e
    cases ht : Nat.blt t nt with
    | false => rw [ht] at e; cases e
    | true =>
      rw [ht] at e
      obtain ⟨b, q, hb, e1⟩ := onPtr_inv (show onPtr ((cOpd (.tmp t)).run r) (fun b o => onR1 ((ldF P ty).run h b o) (fun v => onOpt ((cRes P nt l).run r h) (fun vs => some (v :: vs)) none) none) none = some vs from e) (by simp)
      obtain ⟨v, hv, e2⟩ := onR1_inv e1 (by simp)
      obtain ⟨us, hus, e3⟩ := onOpt_inv e2 (by simp)
      cases e3
      obtain ⟨xs, hxs, hrun⟩ := res_ok R H l us hus
      rw [blt_dec, decide_eq_true_eq] at ht
      have h1 := H.reg t ht
      rw [cOpd_tmp] at hb
      rw [hb] at h1
      obtain ⟨p, hp, hX⟩ := con_ptr h1
      obtain ⟨x, hx, hload⟩ := load_run R hp hv
      refine ⟨x :: xs, conL_cons.2 ⟨_, _, hx, hxs, rfl⟩, ?_⟩
      simp only [List.mapM_cons, resOne, Sem.run_bind, Sem.run_pure, Result.andThen_ok, hX, asAddr, hload, hrun]
theorem results_ok {ρ : Rho} {h : AH} {w : World} {r : Rg} {a : Act} {fn : Func} {vs : List AV} (R : Rel P.globals.size ρ σ h w) (H : RegOk ρ σ nt r a) (e : (cRes P nt fn.results.toList).run r h = some vs) :
    ∃ x, con ρ σ (oneRes vs) = some x ∧ (results fn a.tmps).run P w = .ok x w := by
  obtain ⟨xs, hxs, hrun⟩ := res_ok R H _ _ e
  have hr : results fn a.tmps = (do
      let vs ← List.toArray <$> fn.results.toList.mapM (resOne a.tmps)
      pure (if h : vs.size = 1 then vs[0] else .tuple vs)) := by
    unfold results
    rw [Array.mapM_eq_mapM_toList]
    rfl
  rw [hr]
  simp only [Sem.run_bind, Sem.run_map, hrun, Result.andThen_ok, Sem.run_pure]
  refine ⟨_, ?_, rfl⟩
  cases vs with
  | nil =>
    cases hxs
    exact con_tup_mk rfl
  | cons v t =>
    obtain ⟨x, xt, hx, hxt, rfl⟩ := conL_cons.1 hxs
    cases t with
    | nil =>
      cases hxt
      exact hx
    | cons v2 t2 =>
      obtain ⟨x2, xt2, hx2, hxt2, rfl⟩ := conL_cons.1 hxt
      show con ρ σ (.tup (v :: v2 :: t2)) = _
      rw [con_tup_mk hxs]
      simp

/-! calls that do nothing -/
def IdleOk (P : Program) (D : Nat → Bool) : Prop := ∀ f, D f = true → (∀ (as : Array Value) (w : World), (callFunc f as).run P w = .ok (.enter f as) w) ∧
  ∀ (as : Array Value) (w : World) (n : Nat) (R : Ending → FrameMode → World → Prop), (∀ v, R (.returned v) .returning w) → CallsDIn Fence.wide n P f as .returning w R
theorem idle_ok {D : Nat → Bool} (hD : IdleOk P D) {fn : Func} {tmps : Array Value} {R : Ending → World → Prop} {n : Nat} : ∀ (l : List AV) (ds : List Deferred) {ρ : Rho} {h h' : AH} {w : World}, idle D h l = some h' → Rel P.globals.size ρ σ h w → DefOk ρ σ l ds →
    (∀ w', Ext P.globals.size σ ρ h w ρ h' w' → ∃ v, (results fn tmps).run P w' = .ok v w' ∧ R (.returned v) w') → LeavesInM Fence.wide n P fn tmps R ds .returning w
  | [], [], ρ, h, h', w, e, hR, _, hQ => by
    cases e
    exact hQ w (Ext.refl hR)
  | [], _ :: _, ρ, h, h', w, e, hR, hd, hQ => hd.elim
  | _ :: _, [], ρ, h, h', w, e, hR, hd, hQ => hd.elim
  | v :: l, d :: ds, ρ, h, h', w, e, hR, hd, hQ => by
    have e : onFuncM v (fun f _ _ => sw (D f) (idle D h l) none) (fun i => onDefd (hget h i) (idle D (hput h i .dead) l) none) none = some h' := e
    obtain ⟨hd1, hd2⟩ := hd
    refine ⟨by simp, ?_⟩
    rcases onFuncM_inv e (by simp) with ⟨f, first, cap, rfl, e1⟩ | ⟨i, rfl, e1⟩
    · obtain ⟨hf, e2⟩ := sw_inv e1 (by simp)
      rcases hd1 with ⟨f', first', cap', xs, ys, hv, _, _, rfl⟩ | ⟨i, p, hv, _, _⟩
      · cases hv
        obtain ⟨h1, h2⟩ := hD f hf
        refine .inr ⟨(fun hd => by cases hd), .func f, ys.toArray, f, xs.toArray ++ ys.toArray, rfl, by simp only [invoke, h1], fun _ _ => trivial, ?_⟩
        exact h2 _ _ _ _ fun v => idle_ok hD l ds e2 hR hd2 hQ
      · cases hv
    · obtain ⟨hb, e2⟩ := onDefd_inv e1 (by simp)
      rcases hd1 with ⟨f', first', cap', xs, ys, hv, _, _, _⟩ | ⟨i', p, hv, hp, rfl⟩
      · cases hv
      · cases hv
        have hl : Live h i := ⟨Nat.lt_of_lt_of_le (hR.dom i p hp) hR.nx, by rw [hb]; simp⟩
        obtain ⟨q, hq, hlt, hB⟩ := hR.live i hl
        rw [hp] at hq; cases hq
        rw [hb] at hB
        have hB : w.heap[p.blk]? = some (.deferred (some [])) := hB
        have X : Ext P.globals.size σ ρ h w ρ (hput h i .dead) (w.putObj p.blk (.deferred none)) :=
          Ext.turn hR hl hp .dead _ (by simp) (fun k hk => World.putObj_heap_other hk) trivial rfl rfl rfl
        exact .inl ⟨p.blk, _, rfl, run_takeDeferred hB, idle_ok hD l ds e2 X.rel (hd2.mono (Rho.le.refl _)) fun w' X' => hQ w' (X.trans hR X')⟩

/-! functions -/
theorem args_ok : ∀ (n i : Nat) (l : List AV) (r r1 : Rg), n + i ≤ 512 → (cArgs n i).run l r = some r1 → l.length = n ∧ r1.d = r.d ∧ ∀ t, t < 512 → Hp.get 3 t r1.t = if i ≤ t then (if t < i + n then l.getD (t - i) undefA else Hp.get 3 t r.t) else Hp.get 3 t r.t
  | 0, i, l, r, r1, hn, e => by
    cases l with
    | nil =>
      cases e
      refine ⟨rfl, rfl, fun t ht => ?_⟩
      by_cases h : i ≤ t
      · rw [if_pos h, if_neg (by omega)]
      · rw [if_neg h]
    | cons v l => cases e
  | n + 1, i, l, r, r1, hn, e => by
    cases l with
    | nil => cases e
    | cons v l =>
      have e1 : (cArgs n (i + 1)).run l ((setD (some i)).run v r) = some r1 := e
      obtain ⟨h1, h2, h3⟩ := args_ok n (i + 1) l _ r1 (by omega) e1
      refine ⟨by simp [h1], by rw [h2, setD_d], fun t ht => ?_⟩
      rw [h3 t ht, setD_get (fun x hx => by cases hx; omega) ht]
      by_cases h4 : i + 1 ≤ t
      · rw [if_pos h4, if_pos (show i ≤ t by omega)]
        have h5 : ¬ (some i = some t) := by simp; omega
        rw [if_neg h5]
        by_cases h6 : t < i + 1 + n
        · rw [if_pos h6, if_pos (by omega)]
          rw [show t - i = (t - (i + 1)) + 1 by omega]
          rfl
        · rw [if_neg h6, if_neg (by omega)]
      · rw [if_neg h4]
        by_cases h5 : i = t
        · subst h5
          rw [if_pos rfl, if_pos (Nat.le_refl _), if_pos (by omega), Nat.sub_self]
          rfl
        · rw [if_neg (by simpa using h5), if_neg (by omega)]
theorem func_ok (hm : P.follows .mixedOrders = true) {D : Nat → Bool} (hD : IdleOk P D) {E : Env} {ρ0 : Rho} (hE : EnvOk P σ ρ0 E) {f k : Nat} {args : List AV} {h h' : AH} {v : AV} (ev : (cFunc P D f).run E k args h = .ok v h') :
    (∀ (as : Array Value) (w : World), (callFunc f as).run P w = .ok (.enter f as) w) ∧
    ∀ (ρ : Rho) (w : World) (xs : List Value), ρ0.le ρ → Rel P.globals.size ρ σ h w → conL ρ σ args = some xs → Calls P f xs.toArray w (Back P σ ρ h w v h') := by
  unfold cFunc at ev
  cases hf : P.funcs[f]? with
  | none => rw [hf] at ev; cases ev
  | some fn =>
    rw [hf] at ev
    simp only at ev
    cases hb : fn.body with
    | none => rw [hb] at ev; cases ev
    | some c =>
      rw [hb] at ev
      simp only at ev
      cases hc : decide (fn.ntmps ≤ 512) && fn.name != "runtime.NumGoroutine" && decide (fn.params.size + fn.nfree ≤ fn.ntmps) with
      | false => rw [hc] at ev; cases ev
      | true =>
        rw [hc] at ev
        simp only [Bool.and_eq_true, decide_eq_true_eq, bne_iff_ne, ne_eq] at hc
        obtain ⟨⟨hnt, hname⟩, hpar⟩ := hc
        have hname' : (fn.name == "runtime.NumGoroutine") = false := by simpa using hname
        refine ⟨fun as w => by simp [callFunc, hf, hb, hname], fun ρ w xs hρ hR hxs => ?_⟩
        obtain ⟨r, hr, ev⟩ := onOpt_inv (show onOpt ((cArgs (fn.params.size + fn.nfree) 0).run args rg0) (fun r => onXR ((cCode P fn.ntmps c).run E k r h) (fun e r h =>
          @AEx.casesOn (fun _ => RH) e (onOpt (idle D h r.d) (fun h => onOpt ((cRes P fn.ntmps fn.results.toList).run r h) (fun vs => .ok (oneRes vs) h) .no) .no) (fun _ => .no) (onOpt (idle D h r.d) (fun h => onOpt ((cRes P fn.ntmps fn.results.toList).run r h) (fun vs => .ok (oneRes vs) h) .no) .no)) .no) .no = .ok v h' from ev) (by simp)
        obtain ⟨e, r1, h1, hrun, ev⟩ := onXR_inv ev (by simp)
        obtain ⟨hlen, hd, hget⟩ := args_ok _ 0 args rg0 r (by omega) hr
        have hxl := conL_length hxs
        have hsz : xs.toArray.size = fn.params.size + fn.nfree := by simp [hxl, hlen]
        have S : St P σ fn.ntmps ρ h w r { tmps := xs.toArray ++ Array.replicate (fn.ntmps - xs.toArray.size) undef, defers := [] } := by
          refine ⟨hR, ⟨hnt, by simp; simp at hsz; omega, fun t ht => ?_⟩, by rw [hd]; exact trivial⟩
          rw [hget t (by omega), if_pos (Nat.zero_le _), Nat.zero_add, Nat.sub_zero]
          show _ = some ((xs.toArray ++ Array.replicate (fn.ntmps - xs.toArray.size) undef).getD t undef)
          rw [Array.getD_eq_getD_getElem?]
          by_cases h2 : t < fn.params.size + fn.nfree
          · rw [if_pos h2, Array.getElem?_append_left (by omega)]
            have hlt : t < args.length := by omega
            obtain ⟨x, hx, hcx⟩ := conL_get hxs (List.getElem?_eq_getElem hlt)
            rw [List.getD_eq_getElem?_getD, List.getElem?_eq_getElem hlt]
            simp only [Option.getD_some]
            rw [hcx]
            simp [hx]
          · rw [if_neg h2, Array.getElem?_append_right (by omega), Array.getElem?_replicate]
            have hg : Hp.get 3 t rg0.t = undefA := Hp.get_fill ..
            rw [hg, if_pos (by omega)]
            exact con_undef
        have key : ∀ {ρ1 : Rho} {w1 : World} {a1 : Act}, Ext P.globals.size σ ρ h w ρ1 h1 w1 → St P σ fn.ntmps ρ1 h1 w1 r1 a1 → onOpt (idle D h1 r1.d) (fun h => onOpt ((cRes P fn.ntmps fn.results.toList).run r1 h) (fun vs => RH.ok (oneRes vs) h) .no) .no = .ok v h' →
            LeavesInM Fence.wide 0 P fn a1.tmps (Back P σ ρ h w v h') a1.defers .returning w1 := by
          intro ρ1 w1 a1 X S1 ev
          obtain ⟨h2, hi, ev⟩ := onOpt_inv ev (by simp)
          obtain ⟨vs, hvs, ev⟩ := onOpt_inv ev (by simp)
          cases ev
          refine idle_ok hD r1.d a1.defers hi S1.rel S1.dfr fun w' X' => ?_
          obtain ⟨x, hx, hres⟩ := results_ok X'.rel (S1.reg.mono (X'.le S1.rel)) hvs
          exact ⟨x, hres, x, ρ1, rfl, X.trans hR X', hx⟩
        have hwp := code_ok (σ := σ) (nt := fn.ntmps) hm c (q := none) (n := 0) (Q := bodyPostM Fence.wide 0 P fn (Back P σ ρ h w v h')) (hE.up hρ) S (.inl rfl) hrun fun ρ1 w1 a1 X S1 => by
          cases e with
          | normal => exact key X S1 ev
          | exit id => cases ev
          | ret => exact key X S1 ev
        exact callsIn_wide.1 (callsIn_of_wp_marks (F := Fence.wide) (n := 0) hf hb trivial hwp)

/-! the whole -/
structure SumsOk (P : Program) (σ : Nat → ByteArray) (S : Sums) : Prop where
  low : ∀ f s, S.run f = some s → f < 1048576
  ok : ∀ f s, S.run f = some s → ∀ (args : List AV) (h : AH) (v : AV) (h' : AH), s args h = .ok v h' → (∀ (as : Array Value) (w : World), (callFunc f as).run P w = .ok (.enter f as) w) ∧
    ∀ (ρ : Rho) (w : World) (xs : List Value), Rel P.globals.size ρ σ h w → conL ρ σ args = some xs → Calls P f xs.toArray w (Back P σ ρ h w v h')
theorem env_ok (hm : P.follows .mixedOrders = true) (hsz : P.funcs.size ≤ 1048576) {D : Nat → Bool} (hD : IdleOk P D) {S : Sums} (hS : SumsOk P σ S) {lf : Nat} : ∀ (n : Nat) (ρ0 : Rho), EnvOk P σ ρ0 (envA P D S lf n)
  | 0, ρ0 => ⟨⟨fun f args h v h' _ e => (by cases e), fun l args h v h' e => (by cases e)⟩, fun ρ1 c _ _ f args h v h' _ e => (by cases e)⟩
  | n + 1, ρ0 => by
    have ih := env_ok hm hsz hD hS (lf := lf) n
    refine ⟨⟨?_, ?_⟩, ?_⟩
    · intro f args h v h' hf e
      have e : @Option.casesOn (List AV → AH → RH) (fun _ => RH) (S.run f) ((cFunc P D f).run (envA P D S lf n) lf args h) (fun s => s args h) = .ok v h' := e
      cases hs : S.run f with
      | some s =>
        rw [hs] at e
        obtain ⟨h1, h2⟩ := hS.ok f s hs args h v h' e
        exact ⟨h1, fun ρ w xs _ hR hx => h2 ρ w xs hR hx⟩
      | none =>
        rw [hs] at e
        exact func_ok hm hD (ih ρ0) e
    · intro l args h v h' e
      have e : @Option.casesOn (List AV → AH → RH) (fun _ => RH) (S.run (yldNo l)) ((cFunc P D (yldNo l)).run (envA P D S lf n) lf args h) (fun s => s args h) = .ok v h' := e
      have hbig : 1048576 ≤ yldNo l := Nat.le_add_right _ _
      cases hs : S.run (yldNo l) with
      | some s =>
        have := hS.low _ _ hs
        omega
      | none =>
        rw [hs] at e
        have hno : P.funcs[yldNo l]? = none := by
          rw [Array.getElem?_eq_none]; omega
        have e : (cFunc P D (yldNo l)).run (envA P D S lf n) lf args h = .ok v h' := e
        unfold cFunc at e
        rw [hno] at e
        cases e
    · intro ρ1 c hle hc f args h v h' hf e
      have e : (cFunc P D f).run ⟨c, (envA P D S lf n).cw⟩ lf args h = .ok v h' := e
      exact func_ok hm hD (E := ⟨c, (envA P D S lf n).cw⟩) ⟨hc, fun ρ2 c2 h2 hc2 => (ih ρ1).cw ρ2 c2 h2 hc2⟩ e
/-- what the executor says of a call is what the model does -/
theorem call_ok (hm : P.follows .mixedOrders = true) (hsz : P.funcs.size ≤ 1048576) {D : Nat → Bool} (hD : IdleOk P D) {S : Sums} (hS : SumsOk P σ S) {lf n f : Nat} (hf : f < 1048576) {args : List AV} {h h' : AH} {v : AV} (e : callA P D S lf n f args h = .ok v h') {ρ : Rho} {w : World} {xs : List Value}
    (hR : Rel P.globals.size ρ σ h w) (hxs : conL ρ σ args = some xs) : Calls P f xs.toArray w (Back P σ ρ h w v h') :=
  ((env_ok (σ := σ) hm hsz hD hS (lf := lf) n ρ).call.fn f args h v h' hf e).2 ρ w xs (Rho.le.refl ρ) hR hxs
end
end Go.Proofs.YteahdpjeoeeemaaGreatDoor.Ax

namespace Go.Proofs.YteahdpjeoeeemaaGreatDoor.Ax
set_option linter.unusedVariables false
set_option linter.unusedSimpArgs false
set_option linter.unnecessarySimpa false

mutual
/-- the numbers of blocks turned -/
def ren (μ : Nat → Nat) : AV → AV
  | .ptr b o => .ptr (μ b) o
  | .slice b o len cap es => .slice (μ b) o len cap es
  | .map b => .map (μ b)
  | .func f first cap => .func f (renL μ first) (renL μ cap)
  | .iface t v => .iface t (ren μ v)
  | .agg l => .agg (renL μ l)
  | .tup l => .tup (renL μ l)
  | .yld l => .yld (μ l)
  | .bad => .bad
  | .bool b => .bool b
  | .int k n => .int k n
  | .str s => .str s
  | .atom i => .atom i
  | .nilp => .nilp
  | .nils => .nils
  | .nilm => .nilm
  | .nilf => .nilf
  | .nili => .nili
  | .mark i => .mark i
def renL (μ : Nat → Nat) : List AV → List AV
  | [] => []
  | v :: l => ren μ v :: renL μ l
end
section
variable {P : Program} {σ : Nat → ByteArray} {μ : Nat → Nat} {ρ : Rho}
theorem isCell_ren (v : AV) : isCell (ren μ v) = isCell v := by cases v <;> rfl
theorem all_ren : ∀ l : List AV, (renL μ l).all isCell = l.all isCell
  | [] => rfl
  | v :: l => by show (isCell (ren μ v) && (renL μ l).all isCell) = (isCell v && l.all isCell); rw [isCell_ren, all_ren l]
theorem renL_get : ∀ (l : List AV) (j : Nat), (renL μ l)[j]? = (l[j]?).map (ren μ)
  | [], j => by simp [renL]
  | v :: l, 0 => by simp [renL]
  | v :: l, j + 1 => by simp [renL, renL_get l j]
theorem renL_length : ∀ l : List AV, (renL μ l).length = l.length
  | [] => rfl
  | v :: l => by simp [renL, renL_length l]
mutual
theorem con_ren : ∀ v : AV, con ρ σ (ren μ v) = con (fun i => ρ (μ i)) σ v
  | .ptr b o => rfl
  | .slice b o len cap es => rfl
  | .map b => rfl
  | .func f first cap => by simp only [ren, con, conL_ren first, conL_ren cap]
  | .iface t v => by simp only [ren, con, con_ren v]
  | .agg l => by simp only [ren, con, conL_ren l, all_ren]
  | .tup l => by simp only [ren, con, conL_ren l]
  | .yld l => rfl
  | .bad => rfl
  | .bool b => rfl
  | .int k n => rfl
  | .str s => rfl
  | .atom i => rfl
  | .nilp => rfl
  | .nils => rfl
  | .nilm => rfl
  | .nilf => rfl
  | .nili => rfl
  | .mark i => rfl
theorem conL_ren : ∀ l : List AV, conL ρ σ (renL μ l) = conL (fun i => ρ (μ i)) σ l
  | [] => rfl
  | v :: l => by simp only [renL, conL, con_ren v, conL_ren l]
end
end
end Go.Proofs.YteahdpjeoeeemaaGreatDoor.Ax

namespace Go.Proofs.YteahdpjeoeeemaaGreatDoor.Ax
set_option linter.unusedVariables false
set_option linter.unusedSimpArgs false
set_option linter.unnecessarySimpa false

section
variable {P : Program} {σ : Nat → ByteArray}

/-- a small memory: cells and nothing else, under the first numbers -/
structure Small (hc : AH) : Prop where
  nx : hc.nx ≤ most
  dead : ∀ i, hc.nx ≤ i → i < most → hget hc i = .dead
  cells : ∀ i, i < hc.nx → hget hc i = .dead ∨ ∃ l e ro wh, hget hc i = .cells l e ro wh
/-- how it lies in a greater one -/
structure Lies (NG : Nat) (hc h : AH) (μ : Nat → Nat) : Prop where
  glob : ∀ g, g < NG → μ g = g
  ng : NG ≤ hc.nx
  out : ∀ i, hc.nx ≤ i → h.nx ≤ μ i
  blk : ∀ i l e ro wh, i < hc.nx → hget hc i = .cells l e ro wh → μ i < most ∧ hget h (μ i) = .cells (renL μ l) e ro wh
  inj : ∀ i j, i < hc.nx → j < hc.nx → hget hc i ≠ .dead → hget hc j ≠ .dead → μ i = μ j → i = j
theorem Small.live {hc : AH} (S : Small hc) {i : Nat} (hl : Live hc i) : i < hc.nx ∧ ∃ l e ro wh, hget hc i = .cells l e ro wh := by
  rcases Nat.lt_or_ge i hc.nx with h | h
  · exact ⟨h, (S.cells i h).resolve_left hl.2⟩
  · exact absurd (S.dead i h hl.1) hl.2
theorem Lies.rel {NG : Nat} {hc h : AH} {μ : Nat → Nat} {ρ : Rho} {w : World} (S : Small hc) (L : Lies NG hc h μ) (R : Rel NG ρ σ h w) : Rel NG (fun i => ρ (μ i)) σ hc w := by
  have live : ∀ i, Live hc i → Live h (μ i) := by
    intro i hl
    obtain ⟨hi, l, e, ro, wh, hb⟩ := S.live hl
    obtain ⟨h1, h2⟩ := L.blk i l e ro wh hi hb
    exact ⟨h1, by rw [h2]; simp⟩
  refine ⟨S.nx, ?_, S.dead, ?_, ?_, ?_⟩
  · intro i p hp
    rcases Nat.lt_or_ge i hc.nx with h1 | h1
    · exact h1
    · have := R.dom _ p hp
      have := L.out i h1
      omega
  · intro g hg
    show ∃ p, ρ (μ g) = some p ∧ _
    rw [L.glob g hg]
    exact R.glob g hg
  · intro i hl
    obtain ⟨hi, l, e, ro, wh, hb⟩ := S.live hl
    obtain ⟨h1, h2⟩ := L.blk i l e ro wh hi hb
    obtain ⟨p, hp, hlt, hB⟩ := R.live _ (live i hl)
    refine ⟨p, hp, hlt, ?_⟩
    rw [hb]
    rw [h2] at hB
    obtain ⟨c, fz, ho, H⟩ := hB
    refine ⟨c, fz, ho, H.size, by rw [← renL_length (μ := μ)]; exact H.fits, ?_, H.free, by rw [← renL_length (μ := μ)]; exact H.whole, H.fixd⟩
    intro j v hj
    obtain ⟨h3, x, hx, hcx⟩ := H.cell j (ren μ v) (by rw [renL_get, hj]; rfl)
    rw [con_ren] at hx
    exact ⟨by rw [← isCell_ren (μ := μ)]; exact h3, x, hx, hcx⟩
  · intro i j p q hi hj hp hq he
    obtain ⟨hi1, l, e, ro, wh, hb⟩ := S.live hi
    obtain ⟨hj1, _⟩ := S.live hj
    exact L.inj i j hi1 hj1 hi.2 hj.2 (R.inj _ _ p q (live i hi) (live j hj) hp hq he)
/-- a run over the small memory that leaves it as it was, and gives a plain value, is one over the greater that leaves that as it was -/
theorem Lies.carry {hc hc' h : AH} {μ : Nat → Nat} {f : Nat} {argsc : List AV} {v : AV} (S : Small hc) (L : Lies P.globals.size hc h μ)
    (hsame : ∀ i, i < hc.nx → hget hc i ≠ .dead → hget hc' i = hget hc i)
    (hv : ∀ (ρ ρ' : Rho) (x : Value), con ρ σ v = some x → con ρ' σ v = some x)
    (run : ∀ (ρ : Rho) (w : World) (xs : List Value), Rel P.globals.size ρ σ hc w → conL ρ σ argsc = some xs → Calls P f xs.toArray w (Back P σ ρ hc w v hc'))
    {ρ : Rho} {w : World} {xs : List Value} (R : Rel P.globals.size ρ σ h w) (hxs : conL ρ σ (renL μ argsc) = some xs) : Calls P f xs.toArray w (Back P σ ρ h w v h) := by
  have Rc := L.rel S R
  rw [conL_ren] at hxs
  refine Calls.mono (run _ w xs Rc hxs) fun e w' hB => ?_
  obtain ⟨x, ρ', rfl, X, hx⟩ := hB
  refine ⟨x, ρ, rfl, ⟨⟨R.nx, R.dom, R.dead, R.glob, ?_, R.inj⟩, X.fr.os, X.fr.tape, X.fr.output, X.fr.size, Nat.le_refl _, fun _ _ => rfl, fun _ _ hd => hd, ?_, fun i p hl hp => .inr ⟨i, p, hl, hp, rfl⟩⟩, hv _ _ x hx⟩
  · intro i hl
    obtain ⟨p, hp, hlt, hB⟩ := R.live i hl
    have hsz := X.fr.size
    refine ⟨p, hp, by omega, ?_⟩
    by_cases him : ∃ c, Live hc c ∧ μ c = i
    · obtain ⟨c, hcl, hci⟩ := him
      obtain ⟨hcn, l, el, ro, wh, hb⟩ := S.live hcl
      have hb' : hget hc' c = .cells l el ro wh := by rw [hsame c hcn hcl.2, hb]
      have hcl' : Live hc' c := ⟨hcl.1, by rw [hb']; simp⟩
      obtain ⟨p', hp', hlt', hB'⟩ := X.rel.live c hcl'
      rw [X.fr.old c hcn] at hp'
      have hp' : ρ (μ c) = some p' := hp'
      rw [hci, hp] at hp'; cases hp'
      rw [hb'] at hB'
      obtain ⟨cs, fz, ho, H⟩ := hB'
      have hbi := (L.blk c l el ro wh hcn hb).2
      rw [hci] at hbi
      rw [hbi]
      rw [hbi] at hB
      obtain ⟨cs0, fz0, ho0, H0⟩ := hB
      refine ⟨cs, fz, ho, H.size, by rw [renL_length]; exact H.fits, ?_, H.free, by rw [renL_length]; exact H.whole, H.fixd⟩
      intro j u hj
      obtain ⟨h1, y, hy, _⟩ := H0.cell j u hj
      rw [renL_get] at hj
      cases hlj : l[j]? with
      | none => rw [hlj] at hj; cases hj
      | some u0 =>
        rw [hlj] at hj
        cases hj
        obtain ⟨_, x2, hx2, hcx⟩ := H.cell j u0 hlj
        rw [con_ren] at hy
        have := con_mono (X.le Rc) u0 y hy
        rw [hx2] at this
        have hxy := Option.some.inj this
        exact ⟨h1, y, by rw [con_ren]; exact hy, by rw [← hxy]; exact hcx⟩
    · rw [X.fr.mem p.blk hlt fun c q hcl hq he => ?_]
      · exact hB
      · obtain ⟨hcn, l, el, ro, wh, hb⟩ := S.live hcl
        obtain ⟨h1, h2⟩ := L.blk c l el ro wh hcn hb
        exact him ⟨c, hcl, R.inj _ _ q p ⟨h1, by rw [h2]; simp⟩ hl hq hp he⟩
  · intro c hcs hno
    refine X.fr.mem c hcs fun i q hil hq => ?_
    obtain ⟨hcn, l, el, ro, wh, hb⟩ := S.live hil
    obtain ⟨h1, h2⟩ := L.blk i l el ro wh hcn hb
    exact hno _ q ⟨h1, by rw [h2]; simp⟩ hq
end
end Go.Proofs.YteahdpjeoeeemaaGreatDoor.Ax

namespace Go.Proofs.YteahdpjeoeeemaaGreatDoor.Ax
set_option linter.unusedVariables false
set_option linter.unusedSimpArgs false
set_option linter.unnecessarySimpa false

noncomputable section defs
/-- blocks laid one behind the other -/
def puts : List Blk → AH → AH
  | [], h => h
  | b :: l, h => puts l ⟨Hp.set 5 h.nx b h.hp, Nat.succ h.nx⟩
end defs
/-- blocks of cells, their numbers turned -/
structure CL : Type where
  l : List AV
  e : Nat
  ro : Bool
  wh : Bool
def CL.blk (μ : Nat → Nat) (c : CL) : Blk := .cells (renL μ c.l) c.e c.ro c.wh

theorem puts_nx : ∀ (l : List Blk) (h : AH), (puts l h).nx = h.nx + l.length
  | [], h => rfl
  | b :: l, h => by rw [puts, puts_nx l]; simp only [List.length_cons]; omega
theorem puts_get : ∀ (l : List Blk) (h : AH) (i : Nat), h.nx + l.length ≤ most → i < most → hget (puts l h) i = if i < h.nx then hget h i else (l[i - h.nx]?).getD (hget h i)
  | [], h, i, _, _ => by simp [puts]
  | b :: l, h, i, hm, hi => by
    simp only [List.length_cons] at hm
    rw [puts, puts_get l _ i (by show Nat.succ h.nx + l.length ≤ most; omega) hi, hget_set h h.nx i _ b (by omega) hi]
    show (if i < Nat.succ h.nx then _ else _) = _
    by_cases h1 : i < h.nx
    · rw [if_pos (by omega), if_pos h1, if_neg (by omega)]
    · rw [if_neg h1]
      by_cases h2 : i = h.nx
      · subst h2
        rw [if_pos (by omega), if_pos rfl]; simp
      · rw [if_neg (by omega), if_neg h2]
        show (l[i - Nat.succ h.nx]?).getD (hget h i) = ((b :: l)[i - h.nx]?).getD (hget h i)
        obtain ⟨k, hk⟩ : ∃ k, i - h.nx = k + 1 := ⟨i - h.nx - 1, by omega⟩
        rw [hk, show i - Nat.succ h.nx = k by omega]; simp

section
variable {P : Program} {σ : Nat → ByteArray}

/-- a run over a small memory that leaves what was there as it was and lays new blocks of cells, carried to any memory -/
theorem carry_new {hc hc' h : AH} {μ ξ : Nat → Nat} {lit : List CL} {f : Nat} {v0 : AV} {argsc : List AV} (S : Small hc) (L : Lies P.globals.size hc h μ)
    (hsame : ∀ i, i < hc.nx → hget hc i ≠ .dead → hget hc' i = hget hc i)
    (hξ : ∀ k, lit.length ≤ k → hc'.nx ≤ ξ k) (hξm : ∀ k, k < lit.length → hc.nx ≤ ξ k ∧ ξ k < most) (hinj : ∀ j k, j < lit.length → k < lit.length → ξ j = ξ k → j = k)
    (hblk : ∀ k c, lit[k]? = some c → hget hc' (ξ k) = c.blk ξ) (hroom : h.nx + lit.length ≤ most)
    (run : ∀ (ρ : Rho) (w : World) (xs : List Value), Rel P.globals.size ρ σ hc w → conL ρ σ argsc = some xs → Calls P f xs.toArray w (Back P σ ρ hc w (ren ξ v0) hc'))
    {ρ : Rho} {w : World} {xs : List Value} (R : Rel P.globals.size ρ σ h w) (hxs : conL ρ σ (renL μ argsc) = some xs) : Calls P f xs.toArray w (Back P σ ρ h w (ren (h.nx + ·) v0) (puts (lit.map (CL.blk (h.nx + ·))) h)) := by
  have Rc := L.rel S R
  rw [conL_ren] at hxs
  refine Calls.mono (run _ w xs Rc hxs) fun e w' hB => ?_
  obtain ⟨x, ρ', rfl, X, hx⟩ := hB
  have live0 : ∀ c, Live hc c → Live hc' c ∧ hget hc' c = hget hc c := by
    intro c hcl
    obtain ⟨hcn, _⟩ := S.live hcl
    have := hsame c hcn hcl.2
    exact ⟨⟨hcl.1, by rw [this]; exact hcl.2⟩, this⟩
  have image : ∀ c, Live hc c → Live h (μ c) := by
    intro c hcl
    obtain ⟨hcn, l, el, ro, wh, hb⟩ := S.live hcl
    obtain ⟨h1, h2⟩ := L.blk c l el ro wh hcn hb
    exact ⟨h1, by rw [h2]; simp⟩
  -- what was there stays as it was
  have stays : ∀ i p, Live h i → ρ i = some p → BRel ρ σ p w'.heap[p.blk]? (hget h i) := by
    intro i p hl hp
    obtain ⟨p0, hp0, hlt, hB⟩ := R.live i hl
    rw [hp] at hp0; cases hp0
    by_cases him : ∃ c, Live hc c ∧ μ c = i
    · obtain ⟨c, hcl, hci⟩ := him
      obtain ⟨hcn, l, el, ro, wh, hb⟩ := S.live hcl
      obtain ⟨hcl', hb'⟩ := live0 c hcl
      rw [hb] at hb'
      obtain ⟨p', hp', hlt', hB'⟩ := X.rel.live c hcl'
      rw [X.fr.old c hcn] at hp'
      have hp' : ρ (μ c) = some p' := hp'
      rw [hci, hp] at hp'; cases hp'
      rw [hb'] at hB'
      obtain ⟨cs, fz, ho, H⟩ := hB'
      have hbi := (L.blk c l el ro wh hcn hb).2
      rw [hci] at hbi
      rw [hbi]
      rw [hbi] at hB
      obtain ⟨cs0, fz0, ho0, H0⟩ := hB
      refine ⟨cs, fz, ho, H.size, by rw [renL_length]; exact H.fits, ?_, H.free, by rw [renL_length]; exact H.whole, H.fixd⟩
      intro j u hj
      obtain ⟨h1, y, hy, _⟩ := H0.cell j u hj
      rw [renL_get] at hj
      cases hlj : l[j]? with
      | none => rw [hlj] at hj; cases hj
      | some u0 =>
        rw [hlj] at hj
        cases hj
        obtain ⟨_, x2, hx2, hcx⟩ := H.cell j u0 hlj
        rw [con_ren] at hy
        have := con_mono (X.le Rc) u0 y hy
        rw [hx2] at this
        have hxy := Option.some.inj this
        exact ⟨h1, y, by rw [con_ren]; exact hy, by rw [← hxy]; exact hcx⟩
    · rw [X.fr.mem p.blk hlt fun c q hcl hq he => ?_]
      · exact hB
      · exact him ⟨c, hcl, R.inj _ _ q p (image c hcl) hl hq hp he⟩
  let ρ2 : Rho := fun i => if i < h.nx then ρ i else if i - h.nx < lit.length then ρ' (ξ (i - h.nx)) else none
  have hle : ρ.le ρ2 := fun i p hp => by
    show (if i < h.nx then ρ i else _) = some p
    rw [if_pos (R.dom i p hp)]; exact hp
  have hρ2 : ∀ k, ρ2 (h.nx + k) = ρ' (ξ k) := by
    intro k
    show (if h.nx + k < h.nx then _ else if h.nx + k - h.nx < lit.length then ρ' (ξ (h.nx + k - h.nx)) else none) = _
    rw [if_neg (by omega), Nat.add_sub_cancel_left]
    by_cases hk : k < lit.length
    · rw [if_pos hk]
    · rw [if_neg hk]
      exact (X.rel.fresh_none (hξ k (by omega))).symm
  have hcon : ∀ u : AV, con ρ2 σ (ren (h.nx + ·) u) = con ρ' σ (ren ξ u) := by
    intro u
    rw [con_ren, con_ren]
    congr 1
    funext k
    exact hρ2 k
  have hnx2 : (puts (lit.map (CL.blk (h.nx + ·))) h).nx = h.nx + lit.length := by rw [puts_nx, List.length_map]
  have hget2 : ∀ i, i < most → hget (puts (lit.map (CL.blk (h.nx + ·))) h) i = if i < h.nx then hget h i else ((lit[i - h.nx]?).map (CL.blk (h.nx + ·))).getD .dead := by
    intro i hi
    rw [puts_get _ h i (by rw [List.length_map]; exact hroom) hi]
    by_cases h1 : i < h.nx
    · rw [if_pos h1, if_pos h1]
    · rw [if_neg h1, if_neg h1, List.getElem?_map, R.dead i (by omega) hi]
  -- what is new
  have hnew : ∀ i, i < most → ¬ i < h.nx → hget (puts (lit.map (CL.blk (h.nx + ·))) h) i ≠ .dead → ∃ k c, i = h.nx + k ∧ lit[k]? = some c ∧ k < lit.length ∧ Live hc' (ξ k) ∧ hget (puts (lit.map (CL.blk (h.nx + ·))) h) i = c.blk (h.nx + ·) := by
    intro i hi h1 hl
    rw [hget2 i hi, if_neg h1] at hl ⊢
    cases hc0 : lit[i - h.nx]? with
    | none => rw [hc0] at hl; exact absurd rfl hl
    | some c =>
      have hk : i - h.nx < lit.length := (List.getElem?_eq_some_iff.1 hc0).1
      refine ⟨i - h.nx, c, by omega, hc0, hk, ⟨(hξm _ hk).2, by rw [hblk _ c hc0]; simp [CL.blk]⟩, rfl⟩
  have hge : ∀ k p, k < lit.length → Live hc' (ξ k) → ρ' (ξ k) = some p → w.heap.size ≤ p.blk := by
    intro k p hk hl hp
    rcases X.fr.new (ξ k) p hl hp with h1 | ⟨j, q, hj, hq, he⟩
    · exact h1
    · have hjn := (S.live hj).1
      have := X.rel.inj (ξ k) j p q hl (live0 j hj).1 hp (by rw [X.fr.old j hjn]; exact hq) he.symm
      have := (hξm k hk).1
      omega
  have hsz := X.fr.size
  refine ⟨x, ρ2, rfl, ⟨⟨by rw [hnx2]; exact hroom, ?_, ?_, ?_, ?_, ?_⟩, X.fr.os, X.fr.tape, X.fr.output, hsz, by rw [hnx2]; omega, ?_, ?_, ?_, ?_⟩, by rw [hcon]; exact hx⟩
  · intro i p hp
    rw [hnx2]
    have hp : (if i < h.nx then ρ i else if i - h.nx < lit.length then ρ' (ξ (i - h.nx)) else none) = some p := hp
    by_cases h1 : i < h.nx
    · omega
    · rw [if_neg h1] at hp
      split at hp
      · omega
      · cases hp
  · intro i hi hm
    rw [hnx2] at hi
    rw [hget2 i hm, if_neg (by omega), List.getElem?_eq_none (by omega)]; rfl
  · intro g hg
    obtain ⟨p, hp, h1⟩ := R.glob g hg
    exact ⟨p, hle g p hp, h1⟩
  · intro i hl
    by_cases h1 : i < h.nx
    · have hl' : Live h i := ⟨hl.1, by have := hl.2; rw [hget2 i hl.1, if_pos h1] at this; exact this⟩
      obtain ⟨p, hp, hlt, hB⟩ := R.live i hl'
      refine ⟨p, hle i p hp, by omega, ?_⟩
      rw [hget2 i hl.1, if_pos h1]
      exact (stays i p hl' hp).mono hle
    · obtain ⟨k, c, rfl, hck, hk, hlk, hgk⟩ := hnew i hl.1 h1 hl.2
      obtain ⟨p, hp, hlt, hB⟩ := X.rel.live (ξ k) hlk
      refine ⟨p, by rw [hρ2]; exact hp, hlt, ?_⟩
      rw [hgk]
      rw [hblk k c hck] at hB
      obtain ⟨cs, fz, ho, H⟩ := hB
      refine ⟨cs, fz, ho, H.size, by rw [renL_length, ← renL_length (μ := ξ)]; exact H.fits, ?_, H.free, by rw [renL_length, ← renL_length (μ := ξ)]; exact H.whole, H.fixd⟩
      intro j u hj
      rw [renL_get] at hj
      cases hlj : c.l[j]? with
      | none => rw [hlj] at hj; cases hj
      | some u0 =>
        rw [hlj] at hj
        cases hj
        obtain ⟨h2, y, hy, hcy⟩ := H.cell j (ren ξ u0) (by rw [renL_get, hlj]; rfl)
        refine ⟨by rw [isCell_ren]; rw [isCell_ren] at h2; exact h2, y, by rw [hcon]; exact hy, hcy⟩
  · have old : ∀ i, Live (puts (lit.map (CL.blk (h.nx + ·))) h) i → i < h.nx → Live h i := fun i hl h1 => ⟨hl.1, by have := hl.2; rw [hget2 i hl.1, if_pos h1] at this; exact this⟩
    have hρo : ∀ i, i < h.nx → ρ2 i = ρ i := fun i hi => by show (if i < h.nx then ρ i else _) = _; rw [if_pos hi]
    have mixed : ∀ i j p q, Live (puts (lit.map (CL.blk (h.nx + ·))) h) i → Live (puts (lit.map (CL.blk (h.nx + ·))) h) j → i < h.nx → ¬ j < h.nx → ρ2 i = some p → ρ2 j = some q → p.blk = q.blk → False := by
      intro i j p q hi hj h1 h2 hp hq he
      obtain ⟨p', hp', hlt, _⟩ := R.live i (old i hi h1)
      rw [hρo i h1, hp'] at hp; cases hp
      obtain ⟨k, c, rfl, _, hk, hlk, _⟩ := hnew j hj.1 h2 hj.2
      rw [hρ2] at hq
      have := hge k q hk hlk hq
      omega
    intro i j p q hi hj hp hq he
    by_cases h1 : i < h.nx <;> by_cases h2 : j < h.nx
    · rw [hρo i h1] at hp; rw [hρo j h2] at hq
      exact R.inj i j p q (old i hi h1) (old j hj h2) hp hq he
    · exact (mixed i j p q hi hj h1 h2 hp hq he).elim
    · exact (mixed j i q p hj hi h2 h1 hq hp he.symm).elim
    · obtain ⟨k, c, rfl, _, hk, hlk, _⟩ := hnew i hi.1 h1 hi.2
      obtain ⟨k', c', rfl, _, hk', hlk', _⟩ := hnew j hj.1 h2 hj.2
      rw [hρ2] at hp hq
      rw [hinj k k' hk hk' (X.rel.inj _ _ p q hlk hlk' hp hq he)]
  · intro i hi
    show (if i < h.nx then ρ i else _) = _
    rw [if_pos hi]
  · intro i hi hd
    have hm : i < most := by have := R.nx; omega
    rw [hget2 i hm, if_pos hi]; exact hd
  · intro c hc1 hno
    exact X.fr.mem c hc1 fun i q hil hq => hno _ q (image i hil) hq
  · intro i p hl hp
    by_cases h1 : i < h.nx
    · have hl' : Live h i := ⟨hl.1, by have := hl.2; rw [hget2 i hl.1, if_pos h1] at this; exact this⟩
      have hp : (if i < h.nx then ρ i else _) = some p := hp
      rw [if_pos h1] at hp
      exact .inr ⟨i, p, hl', hp, rfl⟩
    · obtain ⟨k, c, rfl, _, hk, hlk, _⟩ := hnew i hl.1 h1 hl.2
      rw [hρ2] at hp
      exact .inl (hge k p hk hlk hp)
end
end Go.Proofs.YteahdpjeoeeemaaGreatDoor.Ax

namespace Go.Proofs.YteahdpjeoeeemaaGreatDoor.Ax
set_option linter.unusedVariables false
set_option linter.unusedSimpArgs false
set_option linter.unnecessarySimpa false

/-- a function that recovers, and does something only if there was a panic -/
structure Recovers (P : Program) (f : Nat) : Prop where
  mk' ::
  ex : ∃ (fn : Func) (i0 i1 : Nat) (o1 o2 o3 o4 : Oper) (t5 t2 t6 t7 : Nat) (ty yt : TypeId) (ts : Array TypeId) (X : Code),
    P.funcs[f]? = some fn ∧ fn.body = some (.seq (.region i0 #[o1, o2] false) (.seq (.region i1 #[o3, o4] false) (.cond (.tmp t7) X .skip))) ∧ (fn.name == "runtime.NumGoroutine") = false ∧ fn.results = #[] ∧
    o1.op = .call { callee := .builtin .recover, args := #[], argTypes := ts } ∧ o1.dst = some t5 ∧ o1.guard = none ∧ o2.op = .assign (.tmp t5) ∧ o2.dst = some t2 ∧ o2.guard = none ∧
    o3.op = .move (.tmp t2) ∧ o3.dst = some t6 ∧ o3.guard = none ∧ o4.op = .binOp .neq ty (.tmp t6) (.const .nilIface) yt ∧ o4.dst = some t7 ∧ o4.guard = none ∧
    t5 < fn.ntmps ∧ t2 < fn.ntmps ∧ t6 < fn.ntmps ∧ t7 < fn.ntmps ∧ sortOf P ty = 7

section
variable {P : Program}
theorem neq_nil {ty : TypeId} {w : World} (h : sortOf P ty = 7) : (binOp .neq ty .nilIface .nilIface).run P w = .ok (.bool false) w := by
  have h1 : eqF P false ty true .nili .nili = .ok (.bool false) := by
    unfold eqF; rw [h]; rfl
  obtain ⟨Z, hr, hZ⟩ := eqF_ok (P := P) (p := false) (c := true) (t := ty) (fun _ => none) (fun _ => .empty) w .nili .nili _ _ _ h1 rfl rfl
  have : Z = .bool false := by simpa [con] using hZ.symm
  subst this
  exact hr
theorem eval_put {a : Act} {t : Nat} {v : Value} (h : t < a.tmps.size) : (a.put (some t) v).eval (.tmp t) = v := by
  show (a.tmps.setIfInBounds t v).getD t undef = v
  rw [Array.getD_eq_getD_getElem?, Array.getElem?_setIfInBounds, if_pos rfl, if_pos h]; rfl
theorem put_size {a : Act} {t : Option Nat} {v : Value} : (a.put t v).tmps.size = a.tmps.size := by
  cases t with
  | none => rfl
  | some t => show (a.tmps.setIfInBounds t v).size = _; simp
theorem recovers_idle {D : Nat → Bool} (h : ∀ f, D f = true → Recovers P f) : IdleOk P D := by
  intro f hf
  obtain ⟨fn, i0, i1, o1, o2, o3, o4, t5, t2, t6, t7, ty, yt, ts, X, hfn, hb, hname, hres, h1, h1d, h1g, h2, h2d, h2g, h3, h3d, h3g, h4, h4d, h4g, b5, b2, b6, b7, hty⟩ := (h f hf).ex
  refine ⟨fun as w => ?_, fun as w n R hR => ?_⟩
  · have hname' : ¬ fn.name = "runtime.NumGoroutine" := by simpa using hname
    simp [callFunc, hfn, hb, hname']
  · refine callsDIn_of_wpSIn hfn hb trivial fun c₀ cs hu => ?_
    have hrec : recoverD (c₀ :: cs) = none := by
      simp only [recoverD, hu]
    generalize ha : ({ tmps := as ++ Array.replicate (fn.ntmps - as.size) undef, defers := [] } : Act) = a
    have hsz : fn.ntmps ≤ a.tmps.size := by rw [← ha]; simp; omega
    have hd : a.defers = [] := by rw [← ha]
    refine wpSIn_seq (wpSIn_region ?_)
    show wpOpsSIn Fence.wide n P #[o1, o2] _ [0, 1] a (c₀ :: cs) w
    have e1 : (execOp a.eval o1).run P w = .ok .recover w := by
      simp only [execOp, h1, resolve]
      simp [invoke, builtin]
    simp only [wpOpsSIn, List.getElem?_toArray, List.getElem?_cons_zero, List.getElem?_cons_succ]
    rw [wanted_none h1g]
    refine ⟨fun _ _ => trivial, ?_⟩
    rw [if_pos rfl, e1]
    simp only [hrec]
    rw [wanted_none h2g]
    refine ⟨fun _ _ => trivial, ?_⟩
    rw [if_pos rfl, h1d]
    have e2 : (execOp (a.put (some t5) .nilIface).eval o2).run P w = .ok (.value .nilIface) w := by
      simp only [execOp, h2, Sem.run_pure]
      rw [eval_put (by omega)]
    rw [e2, h2d]
    refine wpSIn_seq (wpSIn_region ?_)
    show wpOpsSIn Fence.wide n P #[o3, o4] _ [0, 1] _ (c₀ :: cs) w
    generalize hA : (a.put (some t5) Value.nilIface).put (some t2) Value.nilIface = A
    have hAs : A.tmps.size = a.tmps.size := by rw [← hA, put_size, put_size]
    have hAd : A.defers = [] := by rw [← hA, put_defers, put_defers, hd]
    have hA2 : A.eval (.tmp t2) = .nilIface := by rw [← hA]; exact eval_put (by rw [put_size]; omega)
    simp only [wpOpsSIn, List.getElem?_toArray, List.getElem?_cons_zero, List.getElem?_cons_succ]
    rw [wanted_none h3g]
    refine ⟨fun _ _ => trivial, ?_⟩
    have e3 : (execOp A.eval o3).run P w = .ok (.value .nilIface) w := by
      simp only [execOp, h3, Sem.run_pure, hA2]
    rw [if_pos rfl, e3]
    simp only
    rw [wanted_none h4g]
    refine ⟨fun _ _ => trivial, ?_⟩
    have e4 : (execOp (A.put (some t6) .nilIface).eval o4).run P w = .ok (.value (.bool false)) w := by
      simp only [execOp, h4]
      refine run_v ?_
      have h6 : (A.put (some t6) .nilIface).eval (.tmp t6) = .nilIface := eval_put (by omega)
      have hc : (A.put (some t6) .nilIface).eval (.const .nilIface) = .nilIface := rfl
      rw [h6, hc]
      have hg : (eqGuard .neq ty (.tmp t6) (.const .nilIface) .nilIface .nilIface).run P w = .ok () w := rfl
      simp only [Sem.run_bind, hg, Result.andThen_ok, neq_nil hty]
    rw [if_pos rfl, h3d, e4, h4d]
    simp only
    refine wpSIn_cond (t := false) (by exact eval_put (by rw [put_size]; omega)) ?_
    rw [if_neg (by simp)]
    refine wpSIn_of_wpIn rfl (wpIn_skip ?_)
    refine ⟨by rw [put_defers, put_defers]; exact hAd, .returning, ?_, .tuple #[], ?_, hR _⟩
    · rw [← hu]
    · unfold results
      rw [hres]
      simp
end
end Go.Proofs.YteahdpjeoeeemaaGreatDoor.Ax

/- A part of an executor of the model over an abstract memory, with the proof that what it says is what the model does: Operations as a whole: the five sorts. What the executor says of an operation is what the model does. Regions in the order of the text. What an operation's code rests on: of the registers those it names; of the memory what is live. Values that are compared. Regions whose order is drawn: what is known ahead; the run in the text's order, step by step. -/
import Derived.Test.YteahdpjeoeeemaaGreatDoorAx4
import Derived.OrdersIn
import Derived.RangeFuncRecord
namespace Go.Proofs.YteahdpjeoeeemaaGreatDoor.Ax
set_option linter.unusedVariables false
set_option linter.unusedSimpArgs false
set_option linter.unnecessarySimpa false

/-- the fence that lets all in, in a round of a loop or in none -/
def rnd (q : Option Nat) : Fence := { Fence.wide with round := q }
theorem rnd_none : rnd none = Fence.wide := rfl
theorem rnd_round (q : Option Nat) : (rnd q).round = q := rfl
theorem rnd_depth (q : Option Nat) : (rnd q).depth = none := rfl

/-- what comes back from a call -/
def Back (P : Program) (σ : Nat → ByteArray) (ρ : Rho) (h : AH) (w : World) (v : AV) (h' : AH) (e : Ending) (w' : World) : Prop :=
  ∃ x ρ', e = .returned x ∧ Ext P.globals.size σ ρ h w ρ' h' w' ∧ con ρ' σ v = some x
def FnOk (P : Program) (σ : Nat → ByteArray) (ρ0 : Rho) (call : CallF) : Prop :=
  ∀ (f : Nat) (args : List AV) (h : AH) (v : AV) (h' : AH), f < 1048576 → call f args h = .ok v h' →
    (∀ (as : Array Value) (w : World), (callFunc f as).run P w = .ok (.enter f as) w) ∧
    ∀ (ρ : Rho) (w : World) (xs : List Value), ρ0.le ρ → Rel P.globals.size ρ σ h w → conL ρ σ args = some xs → Calls P f xs.toArray w (Back P σ ρ h w v h')
def YldOk (P : Program) (σ : Nat → ByteArray) (ρ0 : Rho) (call : CallF) : Prop :=
  ∀ (l : Nat) (args : List AV) (h : AH) (v : AV) (h' : AH), call (yldNo l) args h = .ok v h' →
    ∀ (ρ : Rho) (w : World) (xs : List Value), ρ0.le ρ → Rel P.globals.size ρ σ h w → conL ρ σ args = some xs →
      ∀ p : Place, ρ l = some p → ∃ (f : FuncId) (tmps : Array Value) (as body : Code), (Instr.yield p.blk xs.toArray).run P w = .ok (.round p.blk f tmps as body) w ∧
        ∀ n, RoundIn Fence.wide n P p.blk f tmps as body w (Back P σ ρ h w v h')
structure CallOk (P : Program) (σ : Nat → ByteArray) (ρ0 : Rho) (call : CallF) : Prop where
  fn : FnOk P σ ρ0 call
  yld : YldOk P σ ρ0 call
structure EnvOk (P : Program) (σ : Nat → ByteArray) (ρ0 : Rho) (E : Env) : Prop where
  call : CallOk P σ ρ0 E.call
  cw : ∀ (ρ1 : Rho) (c : CallF), ρ0.le ρ1 → CallOk P σ ρ1 c → FnOk P σ ρ1 (E.cw c)
theorem FnOk.up {P : Program} {σ : Nat → ByteArray} {ρ0 ρ1 : Rho} {call : CallF} (h : FnOk P σ ρ0 call) (hle : ρ0.le ρ1) : FnOk P σ ρ1 call :=
  fun f args hh v h' hf e => ⟨(h f args hh v h' hf e).1, fun ρ w xs h1 => (h f args hh v h' hf e).2 ρ w xs (hle.trans h1)⟩
theorem YldOk.up {P : Program} {σ : Nat → ByteArray} {ρ0 ρ1 : Rho} {call : CallF} (h : YldOk P σ ρ0 call) (hle : ρ0.le ρ1) : YldOk P σ ρ1 call :=
  fun l args hh v h' e ρ w xs h1 => h l args hh v h' e ρ w xs (hle.trans h1)
theorem CallOk.up {P : Program} {σ : Nat → ByteArray} {ρ0 ρ1 : Rho} {call : CallF} (h : CallOk P σ ρ0 call) (hle : ρ0.le ρ1) : CallOk P σ ρ1 call := ⟨h.fn.up hle, h.yld.up hle⟩
theorem EnvOk.up {P : Program} {σ : Nat → ByteArray} {ρ0 ρ1 : Rho} {E : Env} (h : EnvOk P σ ρ0 E) (hle : ρ0.le ρ1) : EnvOk P σ ρ1 E := ⟨h.call.up hle, fun ρ2 c h2 => h.cw ρ2 c (hle.trans h2)⟩

/-- how a call deferred stands to the model's -/
def DefOne (ρ : Rho) (σ : Nat → ByteArray) (v : AV) (d : Deferred) : Prop :=
  (∃ f first cap xs ys, v = .func f first cap ∧ conL ρ σ first = some xs ∧ conL ρ σ cap = some ys ∧ d = { target := .fn (.func f) ys.toArray, args := xs.toArray }) ∨
  (∃ i p, v = .mark i ∧ ρ i = some p ∧ d = { target := .collected p.blk, args := #[] })
def DefOk (ρ : Rho) (σ : Nat → ByteArray) : List AV → List Deferred → Prop
  | [], [] => True
  | v :: l, d :: ds => DefOne ρ σ v d ∧ DefOk ρ σ l ds
  | _, _ => False
theorem DefOne.mono {ρ ρ' : Rho} {σ : Nat → ByteArray} (hle : ρ.le ρ') {v : AV} {d : Deferred} : DefOne ρ σ v d → DefOne ρ' σ v d
  | .inl ⟨f, first, cap, xs, ys, h1, h2, h3, h4⟩ => .inl ⟨f, first, cap, xs, ys, h1, conL_mono hle _ _ h2, conL_mono hle _ _ h3, h4⟩
  | .inr ⟨i, p, h1, h2, h3⟩ => .inr ⟨i, p, h1, hle _ _ h2, h3⟩
theorem DefOk.mono {ρ ρ' : Rho} {σ : Nat → ByteArray} (hle : ρ.le ρ') : ∀ {l : List AV} {ds : List Deferred}, DefOk ρ σ l ds → DefOk ρ' σ l ds
  | [], [], _ => trivial
  | v :: l, d :: ds, h => ⟨h.1.mono hle, h.2.mono hle⟩
  | [], _ :: _, h => h.elim
  | _ :: _, [], h => h.elim

def LoudOk (P : Program) (σ : Nat → ByteArray) (nt : Nat) (o : Oper) (f : Env → Rg → AH → RH) : Prop :=
  ∀ (E : Env) (ρ : Rho) (h : AH) (w : World) (r : Rg) (a : Act) (v : AV) (h' : AH), EnvOk P σ ρ E → Cx P σ nt ρ h w r a → f E r h = .ok v h' →
    ∀ (q : Option Nat) (n : Nat) (next : Act → World → Prop) (Q : Exit → Act → World → Prop),
      (∀ (ρ' : Rho) (w' : World) (x : Value), Ext P.globals.size σ ρ h w ρ' h' w' → con ρ' σ v = some x → next (a.put o.dst x) w') →
      o.uponIn (rnd q) n P a next Q ((execOp a.eval o).run P w)
def DfrOk (P : Program) (σ : Nat → ByteArray) (nt : Nat) (o : Oper) (f : Rg → AV) : Prop :=
  (∃ c, o.op = .defer c) ∧ ∀ (ρ : Rho) (h : AH) (w : World) (r : Rg) (a : Act) (g : Nat) (x y : List AV), Cx P σ nt ρ h w r a → f r = .func g x y → ∃ d, (execOp a.eval o).run P w = .ok (.defer d) w ∧ DefOne ρ σ (f r) d
def KOk (P : Program) (σ : Nat → ByteArray) (nt : Nat) (o : Oper) : KOp → Prop
  | .pure f => PureOk P σ nt o f
  | .read f => ReadOk P σ nt o f
  | .alloc f => AllocOk P σ nt o f
  | .loud f => LoudOk P σ nt o f
  | .dfr f => DfrOk P σ nt o f
  | .none => True

section
variable {P : Program} {σ : Nat → ByteArray} {nt : Nat} {o : Oper}

theorem TurnOk.loud {f : Rg → AH → RH} (H : TurnOk P σ nt o f) : LoudOk P σ nt o (fun _ r h => f r h) := by
  intro E ρ h w r a v h' hE C e q n next Q hn
  obtain ⟨nx, x, w', ρ', hr, hx, E', hc⟩ := H ρ h w r a v h' C e
  rw [hr]
  rcases hx with rfl | ⟨rfl, rfl⟩
  · rw [Oper.uponIn_value]; exact hn ρ' w' x E' hc
  · rw [Oper.uponIn_skip]; exact hn ρ' w' undef E' hc

/-- a call that enters a function -/
theorem enter_upon {f : Nat} {as : Array Value} {w : World} {a : Act} {R : Ending → World → Prop} (hrun : (execOp a.eval o).run P w = .ok (.enter f as) w) (hc : Calls P f as w R)
    {q : Option Nat} {n : Nat} {next : Act → World → Prop} {Q : Exit → Act → World → Prop} (hR : ∀ e w', R e w' → ∃ x, e = .returned x ∧ next (a.put o.dst x) w') : o.uponIn (rnd q) n P a next Q ((execOp a.eval o).run P w) := by
  rw [hrun, Oper.uponIn_enter]
  refine ⟨(fun hd => by cases hd), ?_⟩
  have h1 : CallsIn (rnd q) (n - 1) P f as w R := (callsIn_wide (n := n - 1)).2 hc
  refine CallsIn.mono h1 fun e w' he => ?_
  obtain ⟨x, rfl, hx⟩ := hR e w' he
  exact hx
theorem callF_ok {f : FuncId} {c : Call} (ho : o.op = .call c) (hc : c.callee = .value (.func f)) (hops : o.op.operands.toList.all (okOpd P nt) = true) : KOk P σ nt o (callF P f c.args.toList) := by
  obtain ⟨callee, args, ats⟩ := c
  simp only at hc
  subst hc
  have hargs : args.toList.all (okOpd P nt) = true := by
    rw [ho] at hops
    have : (Op.call { callee := .value (.func f), args := args, argTypes := ats }).operands.toList = .func f :: args.toList := by
      simp [Op.operands, Call.operands]
    rw [this, List.all_cons, Bool.and_eq_true] at hops
    exact hops.2
  unfold callF
  cases hf : P.funcs[f]? with
  | none => exact trivial
  | some fn =>
    simp only
    cases hb : fn.body with
    | some body =>
      simp only
      split
      · rename_i hlt
        intro E ρ h w r a v h' hE C e q n next Q hn
        obtain ⟨h1, h2⟩ := hE.call.fn f _ h v h' hlt e
        have hxs := C.opds hargs
        refine enter_upon (as := (args.toList.map a.eval).toArray) (R := Back P σ ρ h w v h') ?_ (h2 ρ w _ (Rho.le.refl ρ) C.rel hxs) fun e' w' hB => ?_
        · simp only [execOp, ho, resolve]
          have he : a.eval (.func f) = .func (.func f) #[] #[] := rfl
          have hev : (#[] ++ args.map a.eval) ++ #[] = (args.toList.map a.eval).toArray := by
            apply Array.ext'; simp
          simp only [he, Deferred.ofValue, Sem.run_bind, Sem.run_pure, Result.andThen_ok, invoke, hev, h1]
        · obtain ⟨x, ρ', rfl, hE', hx⟩ := hB
          exact ⟨x, rfl, hn ρ' w' x hE' hx⟩
      · exact trivial
    | none =>
      simp only
      split
      · rename_i hor
        unfold externF
        split
        · rename_i hn
          split
          · rename_i s c' hl
            have := call_args (f := f) (ts := ats) hl
            subst this
            simp at hargs
            exact indexByte_ok (ts := ats) ho hargs.1 hargs.2 hf hb hor hn
          · exact trivial
        · split
          · rename_i hn
            split
            · rename_i s c' hl
              have := call_args (f := f) (ts := ats) hl
              subst this
              simp at hargs
              exact count_ok (ts := ats) ho hargs.1 hargs.2 hf hb hor hn
            · exact trivial
          · split
            · rename_i hn
              split
              · rename_i x hl
                have := call_args (f := f) (ts := ats) hl
                subst this
                simp at hargs
                exact noEscape_ok (ts := ats) ho hargs hf hb hor hn
              · exact trivial
            · exact trivial
      · exact trivial
theorem callD_ok {x : Operand} {c : Call} (ho : o.op = .call c) (hc : c.callee = .value x) (hx : okOpd P nt x = true) (hargs : c.args.toList.all (okOpd P nt) = true) :
    LoudOk P σ nt o (fun E r h => callD E.call ((cOpd x).run r) ((cOpds c.args.toList).run r) h) := by
  obtain ⟨callee, args, ats⟩ := c
  simp only at hc
  subst hc
  intro E ρ h w r a v h' hE C e q n next Q hn
  have h1 := C.opd hx
  have h2 := C.opds hargs
  simp only at h2
  rcases onFuncY_inv e (by simp) with ⟨g, first, cap, hv, e1⟩ | ⟨l, hv, e1⟩
  · obtain ⟨hlt, e2⟩ := sw_inv e1 (by simp)
    rw [blt_dec, decide_eq_true_eq] at hlt
    rw [catX_eq, catX_eq] at e2
    rw [hv] at h1
    obtain ⟨xs, ys, hxs, hys, hX⟩ := con_func h1
    obtain ⟨h3, h4⟩ := hE.call.fn g _ h v h' hlt e2
    refine enter_upon (as := (xs ++ (args.toList.map a.eval ++ ys)).toArray) (R := Back P σ ρ h w v h') ?_ (h4 ρ w _ (Rho.le.refl ρ) C.rel (conL_append hxs (conL_append h2 hys))) fun e' w' hB => ?_
    · simp only [execOp, ho, resolve]
      rw [hX]
      have hev : (xs.toArray ++ args.map a.eval) ++ ys.toArray = (xs ++ (args.toList.map a.eval ++ ys)).toArray := by
        apply Array.ext'; simp
      simp only [Deferred.ofValue, Sem.run_bind, Sem.run_pure, Result.andThen_ok, invoke, hev, h3]
    · obtain ⟨x, ρ', rfl, hE', hx⟩ := hB
      exact ⟨x, rfl, hn ρ' w' x hE' hx⟩
  · rw [hv] at h1
    have hp : ∃ p, ρ l = some p ∧ a.eval x = .func (.yield p.blk) #[] #[] := by
      simp only [con] at h1
      cases hl : ρ l with
      | none => rw [hl] at h1; cases h1
      | some p => rw [hl] at h1; exact ⟨p, rfl, by simpa using h1.symm⟩
    obtain ⟨p, hp, hX⟩ := hp
    obtain ⟨f, tmps, as, body, hy, hround⟩ := hE.call.yld l _ h v h' e1 ρ w _ (Rho.le.refl ρ) C.rel h2 p hp
    have hrun : (execOp a.eval o).run P w = .ok (.round p.blk f tmps as body) w := by
      simp only [execOp, ho, resolve]
      rw [hX]
      have hev : (#[] : Array Value) ++ args.map a.eval = (args.toList.map a.eval).toArray := by
        apply Array.ext'; simp
      simp only [Deferred.ofValue, Sem.run_bind, Sem.run_pure, Result.andThen_ok, invoke, hev, hy]
    rw [hrun, Oper.uponIn_round]
    refine ⟨(fun hd => by cases hd), ?_⟩
    have h5 : RoundIn (rnd q) (n - 1) P p.blk f tmps as body w (Back P σ ρ h w v h') := hround (n - 1)
    refine RoundIn.mono h5 fun e' w' hB => ?_
    obtain ⟨x, ρ', rfl, hE', hx⟩ := hB
    exact hn ρ' w' x hE' hx
end
end Go.Proofs.YteahdpjeoeeemaaGreatDoor.Ax

namespace Go.Proofs.YteahdpjeoeeemaaGreatDoor.Ax
set_option linter.unusedVariables false
set_option linter.unusedSimpArgs false
set_option linter.unnecessarySimpa false

section
variable {P : Program} {σ : Nat → ByteArray} {nt : Nat} {o : Oper}

theorem ops1 {x : Operand} (h : (#[x] : Array Operand).toList.all (okOpd P nt) = true) : okOpd P nt x = true := by simpa using h
theorem ops2 {x y : Operand} (h : (#[x, y] : Array Operand).toList.all (okOpd P nt) = true) : okOpd P nt x = true ∧ okOpd P nt y = true := by simpa using h
theorem ops3 {x y z : Operand} (h : (#[x, y, z] : Array Operand).toList.all (okOpd P nt) = true) : okOpd P nt x = true ∧ okOpd P nt y = true ∧ okOpd P nt z = true := by simpa using h
theorem opsOpt {x : Option Operand} (h : x.toArray.toList.all (okOpd P nt) = true) : ∀ y, x = some y → okOpd P nt y = true := by
  intro y hy; subst hy; simpa using h
theorem convert_ok {s d : TypeId} {x : Operand} (ho : o.op = .convert s d x) (hx : okOpd P nt x = true) : KOk P σ nt o (convF P s d x) := by
  unfold convF
  split
  · exact conv_int_ok ho hx (by assumption) (by assumption)
  · exact conv_rune_ok ho hx (by assumption) (by assumption)
  · exact conv_str_ok ho hx (by assumption) (by assumption)
  · split
    · exact conv_bytes_ok ho hx (by assumption) (by assumption) (by assumption)
    · exact trivial
  · split
    · exact conv_tobytes_ok ho hx (by assumption) (by assumption) (by assumption)
    · exact trivial
  · split
    · exact trivial
    · exact conv_up_ok ho hx (by assumption) (by assumption) (by assumption)
  · split
    · exact trivial
    · exact conv_down_ok ho hx (by assumption) (by assumption) (by assumption)
  · exact trivial
theorem sliceF_ok {t : TypeId} {x : Operand} {lo hi mx : Option Operand} (ho : o.op = .slice t x lo hi mx) (hx : okOpd P nt x = true) (hlo : ∀ y, lo = some y → okOpd P nt y = true) (hhi : ∀ y, hi = some y → okOpd P nt y = true)
    (hmx : ∀ y, mx = some y → okOpd P nt y = true) : KOk P σ nt o (sliceF P t x lo hi mx) := by
  unfold sliceF
  split
  · split
    · exact trivial
    · rename_i hu hm
      cases mx with
      | some y => exact absurd rfl hm
      | none => exact slStr_ok ho hx hlo hhi hu
  · split
    · split
      · exact trivial
      · rename_i hu _ _ hi' hc
        exact slSl_ok ho hx hlo hhi hmx hu hi' hc
    · exact trivial
  · split
    · split
      · exact trivial
      · rename_i hu _ _ hi' hc
        exact slArr_ok ho hx hlo hhi hmx hu hi' hc
    · exact trivial
  · exact trivial
theorem lenF_ok {t : TypeId} {x : Operand} {ts : Array TypeId} (ho : o.op = .call { callee := .builtin .len, args := #[x], argTypes := ts }) (ht : ts[0]? = some t) (hx : okOpd P nt x = true) : KOk P σ nt o (lenF P t x) := by
  unfold lenF
  split
  · exact len_str_ok ho ht hx (by assumption)
  · exact len_sl_ok ho ht hx (by assumption)
  · exact len_arr_ok ho ht (by assumption)
  · exact len_map_ok ho ht hx (by assumption)
  · exact trivial
theorem cCall_ok {c : Call} (ho : o.op = .call c) (hops : c.operands.toList.all (okOpd P nt) = true) : KOk P σ nt o (cCall P c) := by
  obtain ⟨callee, args, ts⟩ := c
  unfold cCall
  cases callee with
  | value x =>
    have h2 : okOpd P nt x = true ∧ args.toList.all (okOpd P nt) = true := by
      have : (Call.operands { callee := .value x, args := args, argTypes := ts }).toList = x :: args.toList := by simp [Call.operands]
      rw [this, List.all_cons, Bool.and_eq_true] at hops
      exact hops
    cases x with
    | func f => exact callF_ok ho rfl (by rw [ho]; exact hops)
    | tmp t => exact callD_ok ho rfl h2.1 h2.2
    | const v => exact callD_ok ho rfl h2.1 h2.2
    | global g => exact callD_ok ho rfl h2.1 h2.2
  | invoke r m => exact trivial
  | builtin b =>
    have h2 : args.toList.all (okOpd P nt) = true := by
      have : (Call.operands { callee := .builtin b, args := args, argTypes := ts }).toList = args.toList := by simp [Call.operands]
      rw [this] at hops; exact hops
    show KOk P σ nt o (builtinF P b ts args.toList)
    unfold builtinF
    split
    · rename_i x hl
      have := call_args (f := 0) (ts := ts) hl
      subst this
      split
      · exact lenF_ok ho (by assumption) (ops1 h2)
      · exact trivial
    · rename_i s x hl
      have := call_args (f := 0) (ts := ts) hl
      subst this
      unfold appendF
      split
      · split
        · split
          · split
            · exact trivial
            · rename_i hint
              exact (append_ok ho (ops2 h2).1 (ops2 h2).2 (by assumption) (by assumption) (by assumption) (by simpa using hint)).loud
          · exact trivial
        · exact trivial
      · exact trivial
    · rename_i d s hl
      have := call_args (f := 0) (ts := ts) hl
      subst this
      unfold copyF
      split
      · split
        · split
          · exact (copy_ok ho (ops2 h2).1 (ops2 h2).2 (by assumption) (by assumption) (by assumption)).loud
          · exact trivial
        · exact trivial
      · exact trivial
    · rename_i x y hl
      have := call_args (f := 0) (ts := ts) hl
      subst this
      exact max_ok (p := true) (ops2 h2).1 (ops2 h2).2 ho
    · rename_i x y hl
      have := call_args (f := 0) (ts := ts) hl
      subst this
      exact max_ok (p := false) (ops2 h2).1 (ops2 h2).2 ho
    · rename_i x hl
      have := call_args (f := 0) (ts := ts) hl
      subst this
      exact sliceData_ok ho (ops1 h2)
    · rename_i p n hl
      have := call_args (f := 0) (ts := ts) hl
      subst this
      split
      · split
        · exact (unsafeStr_ok ho (ops2 h2).1 (ops2 h2).2 (by assumption) (by assumption)).loud
        · exact trivial
      · exact trivial
    · exact trivial
theorem defer_ok {x : Operand} {c : Call} (ho : o.op = .defer c) (hc : c.callee = .value x) (ha : c.args.toList = []) (hx : okOpd P nt x = true) : DfrOk P σ nt o (cOpd x).run := by
  obtain ⟨callee, args, ts⟩ := c
  simp only at hc ha
  subst hc
  have hargs : args = #[] := by
    apply Array.ext'; exact ha
  subst hargs
  refine ⟨⟨_, ho⟩, ?_⟩
  intro ρ h w r a g fx fy C e
  have h1 := C.opd hx
  rw [e] at h1
  obtain ⟨xs, ys, hxs, hys, hX⟩ := con_func h1
  refine ⟨{ target := .fn (.func g) ys.toArray, args := xs.toArray }, ?_, .inl ⟨g, fx, fy, xs, ys, e, hxs, hys, rfl⟩⟩
  simp only [execOp, ho, resolve, hX]
  simp [Deferred.ofValue]
theorem cOp0_ok (hops : o.op.operands.toList.all (okOpd P nt) = true) : KOk P σ nt o (cOp0 P o) := by
  unfold cOp0
  cases ho : o.op <;> rw [ho] at hops <;> try exact trivial
  case move x => exact move_ok (.inl ho) (ops1 hops)
  case assign x => exact move_ok (.inr ho) (ops1 hops)
  case pick c x y => exact pick_ok ho (ops3 hops).1 (ops3 hops).2.1 (ops3 hops).2.2
  case alloc e =>
    simp only
    split
    · exact alloc_ok ho (by assumption)
    · exact trivial
  case box e x => exact box_ok ho (ops1 hops)
  case build t parts =>
    simp only
    split
    · exact build_ok ho (by simpa [Op.operands] using hops) (by assumption) (by assumption)
    · exact trivial
  case buildSlice t len parts =>
    simp only
    split
    · split
      · split
        · exact buildSlice_ok ho (by simpa [Op.operands] using hops) (by assumption) (by assumption) (by assumption) (by assumption)
        · exact trivial
      · exact trivial
    · exact trivial
  case load t x => exact load_ok ho (ops1 hops)
  case store t x y =>
    simp only
    split
    · exact (store_ok ho (ops2 hops).1 (ops2 hops).2 (by assumption)).loud
    · exact trivial
  case nilCheck x => exact nilCheck_ok ho (ops1 hops)
  case binOp op t x y yt => exact binOp_ok ho (ops2 hops).1 (ops2 hops).2
  case unOp op t x => exact unOp_ok ho (ops1 hops)
  case convert s d x => exact convert_ok ho (ops1 hops)
  case makeInterface t x =>
    simp only
    split
    · exact trivial
    · rename_i d hne hu
      exact makeInterface_ok ho (ops1 hops) hu (fun ms hd => by subst hd; exact hne _ rfl)
    · exact trivial
  case makeFunc f first cap =>
    cases f <;> try exact trivial
    have h2 : (first ++ cap).toList.all (okOpd P nt) = true := hops
    rw [Array.toList_append, List.all_append, Bool.and_eq_true] at h2
    exact makeFunc_ok ho h2.1 h2.2
  case makeMap t r =>
    cases r <;> try exact trivial
    exact makeMap_ok ho
  case makeSlice t l c =>
    simp only
    split
    · split
      · exact makeSlice_ok ho (ops2 hops).1 (ops2 hops).2 (by assumption) (by assumption) (by assumption)
      · exact trivial
    · exact trivial
  case slice t x lo hi mx =>
    have h2 : (#[x] ++ lo.toArray ++ hi.toArray ++ mx.toArray).toList.all (okOpd P nt) = true := hops
    simp only [Array.toList_append, List.all_append, Bool.and_eq_true] at h2
    exact sliceF_ok ho (ops1 h2.1.1.1) (opsOpt h2.1.1.2) (opsOpt h2.1.2) (opsOpt h2.2)
  case fieldAddr s x f =>
    simp only
    split
    · exact fieldAddr_ok ho (ops1 hops) (by assumption)
    · exact trivial
  case field s x f =>
    simp only
    split
    · exact field_ok ho (ops1 hops) (by assumption)
    · exact trivial
  case indexAddr t x i =>
    simp only
    unfold indexAddrF
    split
    · split
      · exact indexAddr_sl_ok ho (ops2 hops).1 (ops2 hops).2 (by assumption) (by assumption)
      · exact trivial
    · split
      · exact indexAddr_arr_ok ho (ops2 hops).1 (ops2 hops).2 (by assumption) (by assumption)
      · exact trivial
    · exact trivial
  case index t x i =>
    simp only
    unfold indexF
    split
    · exact index_str_ok ho (ops2 hops).1 (ops2 hops).2 (by assumption)
    · split
      · exact index_arr_ok ho (ops2 hops).1 (ops2 hops).2 (by assumption) (by assumption)
      · exact trivial
    · exact trivial
  case lookup t m x c =>
    simp only
    unfold lookupF
    split
    · split
      · exact lookup_ok ho (ops2 hops).1 (ops2 hops).2 (by assumption) (by assumption)
      · exact trivial
    · exact trivial
  case mapUpdate t m x v =>
    simp only
    unfold updateF
    split
    · exact (update_ok (.inl ho) (ops3 hops).1 (ops3 hops).2.1 (ops3 hops).2.2 (by assumption)).loud
    · exact trivial
  case insert t m x v =>
    simp only
    unfold updateF
    split
    · exact (update_ok (.inr ho) (ops3 hops).1 (ops3 hops).2.1 (ops3 hops).2.2 (by assumption)).loud
    · exact trivial
  case range t x =>
    simp only
    split
    · exact range_ok ho (ops1 hops) (by assumption)
    · exact trivial
  case next it s =>
    cases s
    · exact trivial
    · exact (next_ok ho (ops1 hops)).loud
  case extract x i => exact extract_ok ho (ops1 hops)
  case call c => exact cCall_ok ho hops
  case defer c =>
    simp only
    split
    · rename_i x hc ha
      have h2 : okOpd P nt x = true := by
        have : c.operands.toList = [x] := by simp [Call.operands, hc, ha]
        have h3 : c.operands.toList.all (okOpd P nt) = true := hops
        rw [this] at h3
        simpa using h3
      exact defer_ok ho hc ha h2
    · exact trivial
/-- what is known of an operation's code -/
theorem cOp_ok : KOk P σ nt o (cOp P nt o) ∧ ((cOp P nt o) ≠ .none → ∀ d, o.dst = some d → d < nt) := by
  unfold cOp
  cases h : okOper P nt o with
  | false => exact ⟨trivial, fun h => absurd rfl h⟩
  | true =>
    unfold okOper at h
    rw [Bool.and_eq_true] at h
    refine ⟨cOp0_ok h.1, fun _ d hd => ?_⟩
    have := h.2
    rw [hd] at this
    simpa [blt_dec] using this
end
end Go.Proofs.YteahdpjeoeeemaaGreatDoor.Ax

namespace Go.Proofs.YteahdpjeoeeemaaGreatDoor.Ax
set_option linter.unusedVariables false
set_option linter.unusedSimpArgs false
set_option linter.unnecessarySimpa false

/-- how executor's ways out stand to the model's -/
def exOf : AEx → Exit
  | .normal => .normal
  | .exit id => .exit id
  | .ret => .ret

section
variable {P : Program} {σ : Nat → ByteArray} {nt : Nat} {o : Oper}

theorem setD_d (dst : Option Nat) (v : AV) (r : Rg) : ((setD dst).run v r).d = r.d := by
  cases dst <;> rfl
theorem setD_some (t : Nat) (v : AV) (r : Rg) : ((setD (some t)).run v r).t = Hp.set 3 t v r.t := by
  show (Hp.setK 3 t).run v r.t = _
  rw [Hp.setK_run]
theorem reg_put {ρ : Rho} {r : Rg} {a : Act} {dst : Option Nat} {v : AV} {x : Value} (H : RegOk ρ σ nt r a) (hx : con ρ σ v = some x) (hd : ∀ d, dst = some d → d < nt) : RegOk ρ σ nt ((setD dst).run v r) (a.put dst x) := by
  cases dst with
  | none => exact H
  | some d =>
    have hdn := hd d rfl
    have hsm := H.small
    refine ⟨H.small, ?_, ?_⟩
    · show (a.tmps.setIfInBounds d x).size = nt
      rw [Array.size_setIfInBounds]; exact H.size
    · intro t ht
      rw [setD_some, Hp.get_set 3 d t v r.t (by show d < 512; omega) (by show t < 512; omega)]
      show _ = some ((a.tmps.setIfInBounds d x).getD t undef)
      rw [Array.getD_eq_getD_getElem?, Array.getElem?_setIfInBounds]
      by_cases h : t = d
      · subst h
        rw [if_pos rfl, if_pos rfl, if_pos (by rw [H.size]; exact ht)]
        exact hx
      · rw [if_neg h, if_neg (Ne.symm h), ← Array.getD_eq_getD_getElem?]
        exact H.reg t ht
theorem RegOk.mono {ρ ρ' : Rho} {r : Rg} {a : Act} (hle : ρ.le ρ') (H : RegOk ρ σ nt r a) : RegOk ρ' σ nt r a := ⟨H.small, H.size, fun t ht => con_mono hle _ _ (H.reg t ht)⟩
theorem put_defers (a : Act) (dst : Option Nat) (x : Value) : (a.put dst x).defers = a.defers := by cases dst <;> rfl
theorem RegOk.defers {ρ : Rho} {r : Rg} {a : Act} {ds : List Deferred} {l : List AV} (H : RegOk ρ σ nt r a) : RegOk ρ σ nt ⟨r.t, l⟩ { a with defers := ds } := ⟨H.small, H.size, H.reg⟩

/-- the state on the way -/
structure St (P : Program) (σ : Nat → ByteArray) (nt : Nat) (ρ : Rho) (h : AH) (w : World) (r : Rg) (a : Act) : Prop where
  rel : Rel P.globals.size ρ σ h w
  reg : RegOk ρ σ nt r a
  dfr : DefOk ρ σ r.d a.defers
theorem St.cx {ρ : Rho} {h : AH} {w : World} {r : Rg} {a : Act} (S : St P σ nt ρ h w r a) : Cx P σ nt ρ h w r a := ⟨S.rel, S.reg⟩
theorem St.put {ρ ρ' : Rho} {h h' : AH} {w w' : World} {r : Rg} {a : Act} (S : St P σ nt ρ h w r a) (E : Ext P.globals.size σ ρ h w ρ' h' w') {dst : Option Nat} {v : AV} {x : Value} (hx : con ρ' σ v = some x) (hd : ∀ d, dst = some d → d < nt) :
    St P σ nt ρ' h' w' ((setD dst).run v r) (a.put dst x) := by
  have hle := E.le S.rel
  exact ⟨E.rel, reg_put (S.reg.mono hle) hx hd, by rw [setD_d, put_defers]; exact S.dfr.mono hle⟩
theorem con_undef {ρ : Rho} : con ρ σ undefA = some undef := rfl
theorem semAt_plain {q : Option Nat} {ρ : Operand → Value} (h : q = none ∨ ∀ c, o.op ≠ .defer c) : Oper.semAt q ρ o = execOp ρ o := by
  rcases h with rfl | h
  · rfl
  · exact Oper.semAt_eq q ρ o h

/-- one operation -/
theorem step_ok {E : Env} {ρ : Rho} {h h' : AH} {w : World} {r r' : Rg} {a : Act} {e : AEx} {kf : Env → Rg → AH → XR} {q : Option Nat} (hE : EnvOk P σ ρ E) (S : St P σ nt ρ h w r a)
    (hq : q = none ∨ ∀ c, o.op ≠ .defer c) (ev : (stepK (cOp P nt o) (setD o.dst).run kf).run E r h = .ok e r' h') {n : Nat} {next : Act → World → Prop} {Q : Exit → Act → World → Prop}
    (hn : ∀ (ρ1 : Rho) (h1 : AH) (w1 : World) (r1 : Rg) (a1 : Act), Ext P.globals.size σ ρ h w ρ1 h1 w1 → St P σ nt ρ1 h1 w1 r1 a1 → kf E r1 h1 = .ok e r' h' → next a1 w1) :
    o.wpIn (rnd q) n P a w next Q := by
  obtain ⟨hk, hd⟩ := cOp_ok (P := P) (σ := σ) (nt := nt) (o := o)
  refine ⟨fun _ _ => trivial, ?_⟩
  rw [show (rnd q).round = q from rfl, semAt_plain hq]
  generalize hop : cOp P nt o = op at ev hk hd
  cases op with
  | pure f =>
    obtain ⟨v, hv, ev⟩ := onR1_inv ev (by simp)
    obtain ⟨x, hx, hc⟩ := hk ρ h w r a v S.cx hv
    rw [hx, Oper.uponIn_value]
    exact hn ρ h w _ _ (Ext.refl S.rel) (S.put (Ext.refl S.rel) hc (hd (by simp))) ev
  | read f =>
    obtain ⟨v, hv, ev⟩ := onR1_inv ev (by simp)
    obtain ⟨x, hx, hc⟩ := hk ρ h w r a v S.cx hv
    rw [hx, Oper.uponIn_value]
    exact hn ρ h w _ _ (Ext.refl S.rel) (S.put (Ext.refl S.rel) hc (hd (by simp))) ev
  | alloc f =>
    obtain ⟨hlt, ev⟩ := sw_inv ev (by simp)
    rw [blt_dec, decide_eq_true_eq] at hlt
    obtain ⟨v, b, hv, ev⟩ := onRA_inv ev (by simp)
    obtain ⟨x, w', obj, p, hx, h1, h2, h3, h4, h5, h6⟩ := hk ρ h w r a h.nx v b S.cx hv
    have hle := Rho.le_put (p := p) (S.rel.fresh_none (Nat.le_refl h.nx))
    obtain ⟨hb, hc⟩ := h6 (ρ.put h.nx p) hle (Rho.put_same ..)
    have E' := Ext.alloc S.rel hlt obj b p h5 hb w' h1 h2 h3 h4
    rw [hx, Oper.uponIn_value]
    exact hn _ _ w' _ _ E' (S.put E' hc (hd (by simp))) ev
  | loud f =>
    obtain ⟨v, h1, hv, ev⟩ := onRH_inv ev (by simp)
    exact hk E ρ h w r a v h1 hE S.cx hv q n next Q fun ρ' w' x E' hc => hn ρ' h1 w' _ _ E' (S.put E' hc (hd (by simp))) ev
  | dfr f =>
    obtain ⟨g, x, y, hv, ev⟩ := onFunc_inv ev (by simp)
    obtain ⟨d, hx, hD⟩ := hk.2 ρ h w r a g x y S.cx hv
    rw [hx, Oper.uponIn_defer]
    have E' := Ext.refl S.rel
    refine hn ρ h w _ _ E' ?_ ev
    have S' : St P σ nt ρ h w ⟨r.t, f r :: r.d⟩ { a with defers := d :: a.defers } := ⟨S.rel, S.reg.defers, ⟨hD, S.dfr⟩⟩
    exact S'.put E' con_undef (hd (by simp))
  | none => cases ev

/-! guards -/
theorem con_bool_inv {ρ : Rho} {v : AV} {b : Bool} (h : con ρ σ v = some (.bool b)) : v = .bool b := by
  cases v <;> first
    | (simp [con] at h; done)
    | (have := con_bool h; simp at this; rw [this]; done)
    | (have := (con_int h).2; simp at this; done)
    | (have := (con_str h).2; simp at this; done)
    | (obtain ⟨_, _, hp⟩ := con_ptr h; cases hp)
    | (obtain ⟨_, _, hp, _⟩ := con_slice h; cases hp)
    | (obtain ⟨_, _, hp⟩ := con_map h; cases hp)
    | (obtain ⟨_, _, _, _, hp⟩ := con_func h; cases hp)
    | (obtain ⟨_, _, hp⟩ := con_iface h; cases hp)
    | (rename_i l
       simp only [con] at h
       cases hb : ρ l <;> rw [hb] at h <;> cases h)
    | (obtain ⟨_, _, hp⟩ := con_tup h; cases hp)
    | (rename_i l
       simp only [con] at h
       cases hb : conL ρ σ l <;> rw [hb] at h <;> simp at h)
theorem guard_val {ρ : Rho} {r : Rg} {a : Act} {ops : Array Oper} {j t : Nat} {want : Bool} (H : RegOk ρ σ nt r a) (ht : t < nt) (hj : (ops[j]?).bind (·.dst) = some t) :
    onBool ((cOpd (.tmp t)).run r) (fun b => sw b want (notB want)) false = (yielded ops a.tmps j == some want) := by
  have h1 := H.reg t ht
  rw [cOpd_tmp]
  have hlt : t < a.tmps.size := by rw [H.size]; exact ht
  have hg : a.tmps[t]? = some (a.tmps.getD t undef) := by
    rw [Array.getD_eq_getD_getElem?, Array.getElem?_eq_getElem hlt]; rfl
  unfold yielded
  rw [hj]
  simp only [Option.bind_some, hg]
  generalize a.tmps.getD t undef = x at h1 ⊢
  by_cases hb : ∃ b, x = .bool b
  · obtain ⟨b, rfl⟩ := hb
    rw [con_bool_inv h1]
    cases b <;> cases want <;> rfl
  · have hv : ∀ b, Hp.get 3 t r.t ≠ .bool b := fun b hv => hb ⟨b, by rw [hv] at h1; simpa [con] using h1.symm⟩
    generalize Hp.get 3 t r.t = v at hv
    have hl : onBool v (fun b => sw b want (notB want)) false = false := by
      cases v <;> first | rfl | exact absurd rfl (hv _)
    rw [hl]
    cases x <;> first | rfl | exact absurd ⟨_, rfl⟩ hb
theorem guardOf_some {ops : Array Oper} {g : Option Nat × Bool} (h : guardOf ops o = some g) : ∃ j, o.guard = some (j, g.2) ∧ (ops[j]?).bind (·.dst) = g.1 := by
  unfold guardOf at h
  split at h
  · cases h
  · rename_i j want hg
    cases h
    exact ⟨j, hg, rfl⟩
theorem guardOf_none {ops : Array Oper} (h : guardOf ops o = none) : o.guard = none := by
  unfold guardOf at h
  split at h
  · assumption
  · cases h
theorem wanted_none {f : Nat → Option Bool} (h : o.guard = none) : Region.wanted o f = true := by
  unfold Region.wanted; rw [h]
theorem wanted_some {f : Nat → Option Bool} {j : Nat} {want : Bool} (h : o.guard = some (j, want)) : Region.wanted o f = (f j == some want) := by
  unfold Region.wanted; rw [h]

theorem okDst_lt (h : okDst nt o = true) : ∀ d, o.dst = some d → d < nt := by
  intro d hd
  unfold okDst at h
  rw [hd] at h
  simpa [blt_dec] using h
/-- the operations from one on -/
theorem ops_ok {ops : Array Oper} : ∀ (l : List Oper) (i : Nat), ops.toList.drop i = l → ∀ {E : Env} {ρ : Rho} {h h' : AH} {w : World} {r r' : Rg} {a : Act} {e : AEx} {q : Option Nat}, EnvOk P σ ρ E → St P σ nt ρ h w r a →
    (q = none ∨ ∀ o ∈ l, ∀ c, o.op ≠ .defer c) → (cOps P nt ops l).run E r h = .ok e r' h' → ∀ {n : Nat} {Q : Exit → Act → World → Prop},
    (∀ (ρ1 : Rho) (w1 : World) (a1 : Act), Ext P.globals.size σ ρ h w ρ1 h' w1 → St P σ nt ρ1 h' w1 r' a1 → Q (exOf e) a1 w1) → wpOpsIn (rnd q) n P ops Q (List.range' i l.length) a w
  | [], i, hl, E, ρ, h, h', w, r, r', a, e, q, hE, S, hq, ev, n, Q, hQ => by
    cases ev
    exact hQ ρ w a (Ext.refl S.rel) S
  | o :: l, i, hl, E, ρ, h, h', w, r, r', a, e, q, hE, S, hq, ev, n, Q, hQ => by
    have hi : ops[i]? = some o := by
      have := congrArg (fun m => m[0]?) hl
      simpa using this
    have hl' : ops.toList.drop (i + 1) = l := by
      have := congrArg (fun m => m.drop 1) hl
      simpa using this
    have hqo : q = none ∨ ∀ c, o.op ≠ .defer c := hq.imp id (fun h => h o (by simp))
    have hql : q = none ∨ ∀ o ∈ l, ∀ c, o.op ≠ .defer c := hq.imp id (fun h o' ho' => h o' (by simp [ho']))
    have next : ∀ (ρ1 : Rho) (h1 : AH) (w1 : World) (r1 : Rg) (a1 : Act), Ext P.globals.size σ ρ h w ρ1 h1 w1 → St P σ nt ρ1 h1 w1 r1 a1 → (cOps P nt ops l).run E r1 h1 = .ok e r' h' →
        wpOpsIn (rnd q) n P ops Q (List.range' (i + 1) l.length) a1 w1 := fun ρ1 h1 w1 r1 a1 E1 S1 ev1 =>
      ops_ok l (i + 1) hl' (hE.up (E1.le S.rel)) S1 hql ev1 fun ρ2 w2 a2 E2 S2 => hQ ρ2 w2 a2 (E1.trans S.rel E2) S2
    rw [List.length_cons, List.range'_succ]
    simp only [wpOpsIn, hi]
    change (cOne P nt ops o (cOps P nt ops l)).run E r h = .ok e r' h' at ev
    unfold cOne at ev
    cases hg : guardOf ops o with
    | none =>
      rw [wanted_none (guardOf_none hg), if_pos rfl]
      simp only [hg] at ev
      exact step_ok hE S hqo ev next
    | some g =>
      obtain ⟨t, want⟩ := g
      obtain ⟨j, hj, ht⟩ := guardOf_some hg
      simp only at hj ht
      simp only [hg] at ev
      cases t with
      | none => cases ev
      | some t =>
        simp only at ev
        cases htn0 : andB (Nat.blt t nt) (okDst nt o) with
        | false => rw [htn0] at ev; cases ev
        | true =>
          rw [htn0] at ev
          rw [andB_eq, Bool.and_eq_true, blt_dec, decide_eq_true_eq] at htn0
          obtain ⟨htn, hdst⟩ := htn0
          have hv := guard_val (ops := ops) (j := j) (want := want) S.reg htn ht
          rw [wanted_some hj, ← hv]
          cases hb : onBool ((cOpd (.tmp t)).run r) (fun b => sw b want (notB want)) false with
          | true =>
            rw [if_pos rfl]
            have ev' : sw (onBool ((cOpd (.tmp t)).run r) (fun b => sw b want (notB want)) false) ((stepK (cOp P nt o) (setD o.dst).run (cOps P nt ops l).run).run E r h) ((cOps P nt ops l).run E ((setD o.dst).run undefA r) h) = .ok e r' h' := ev
            rw [hb, sw_true] at ev'
            exact step_ok hE S hqo ev' next
          | false =>
            rw [if_neg (by simp)]
            have ev' : sw (onBool ((cOpd (.tmp t)).run r) (fun b => sw b want (notB want)) false) ((stepK (cOp P nt o) (setD o.dst).run (cOps P nt ops l).run).run E r h) ((cOps P nt ops l).run E ((setD o.dst).run undefA r) h) = .ok e r' h' := ev
            rw [hb, sw_false] at ev'
            refine ⟨fun _ _ => trivial, ?_⟩
            have hd : ∀ d, o.dst = some d → d < nt := okDst_lt hdst
            exact next ρ h w _ _ (Ext.refl S.rel) (S.put (Ext.refl S.rel) con_undef hd) ev'
end
end Go.Proofs.YteahdpjeoeeemaaGreatDoor.Ax

namespace Go.Proofs.YteahdpjeoeeemaaGreatDoor.Ax
set_option linter.unusedVariables false
set_option linter.unusedSimpArgs false
set_option linter.unnecessarySimpa false

section
variable {P : Program} {σ : Nat → ByteArray} {nt : Nat} {o : Oper}

theorem kg_cases {α β γ : Type} (x : KG α β) (f : (α → β) → γ) : @KG.casesOn α β (fun _ => γ) x f = f x.run := rfl

def Agree (ns : List Nat) (r r' : Rg) : Prop := ∀ t ∈ ns, Hp.get 3 t r.t = Hp.get 3 t r'.t
def KDep (ns : List Nat) : KOp → Prop
  | .pure f => ∀ r r', Agree ns r r' → f r = f r'
  | .read f => ∀ r r', Agree ns r r' → ∀ h, f r h = f r' h
  | .alloc f => ∀ r r', Agree ns r r' → ∀ id, f r id = f r' id
  | .loud f => ∀ r r', Agree ns r r' → ∀ E h, f E r h = f E r' h
  | .dfr _ => True
  | .none => True
theorem Agree.sub {ns ms : List Nat} {r r' : Rg} (h : Agree ns r r') (hs : ∀ t ∈ ms, t ∈ ns) : Agree ms r r' := fun t ht => h t (hs t ht)
theorem opd_dep {x : Operand} {r r' : Rg} (h : Agree (opdT x) r r') : (cOpd x).run r = (cOpd x).run r' := by
  cases x with
  | tmp t => rw [cOpd_tmp, cOpd_tmp]; exact h t (by simp [opdT])
  | const v => rfl
  | global g => rfl
  | func f => rfl
theorem opds_dep {r r' : Rg} : ∀ {l : List Operand}, Agree (l.flatMap opdT) r r' → (cOpds l).run r = (cOpds l).run r'
  | [], _ => rfl
  | x :: l, h => by
    rw [List.flatMap_cons] at h
    have h1 := opd_dep (h.sub (ms := opdT x) (fun t ht => List.mem_append.2 (.inl ht)))
    have h2 := opds_dep (h.sub (ms := l.flatMap opdT) (fun t ht => List.mem_append.2 (.inr ht)))
    show (cOpd x).run r :: (cOpds l).run r = (cOpd x).run r' :: (cOpds l).run r'
    rw [h1, h2]
theorem opt_dep {x : Option Operand} {r r' : Rg} (h : Agree (x.toArray.toList.flatMap opdT) r r') : (cOptO x).run r = (cOptO x).run r' := by
  cases x with
  | none => rfl
  | some y =>
    have h1 := opd_dep (h.sub (ms := opdT y) (fun t ht => by simpa using ht))
    show some ((cOpd y).run r) = some ((cOpd y).run r')
    rw [h1]
/-- of one, two, three operands -/
theorem dep1 {x : Operand} {r r' : Rg} (h : Agree ((#[x] : Array Operand).toList.flatMap opdT) r r') : (cOpd x).run r = (cOpd x).run r' :=
  opd_dep (h.sub fun t ht => by simpa using ht)
theorem dep2 {x y : Operand} {r r' : Rg} (h : Agree ((#[x, y] : Array Operand).toList.flatMap opdT) r r') : (cOpd x).run r = (cOpd x).run r' ∧ (cOpd y).run r = (cOpd y).run r' :=
  ⟨opd_dep (h.sub fun t ht => by simp [ht]), opd_dep (h.sub fun t ht => by simp [ht])⟩
theorem dep3 {x y z : Operand} {r r' : Rg} (h : Agree ((#[x, y, z] : Array Operand).toList.flatMap opdT) r r') : (cOpd x).run r = (cOpd x).run r' ∧ (cOpd y).run r = (cOpd y).run r' ∧ (cOpd z).run r = (cOpd z).run r' :=
  ⟨opd_dep (h.sub fun t ht => by simp [ht]), opd_dep (h.sub fun t ht => by simp [ht]), opd_dep (h.sub fun t ht => by simp [ht])⟩
theorem k1_dep {x : Operand} {f : AV → R1} : KDep ((#[x] : Array Operand).toList.flatMap opdT) (k1 x f) := fun r r' H => by
  show f ((cOpd x).run r) = f ((cOpd x).run r'); rw [dep1 H]
theorem k2_dep {x y : Operand} {f : AV → AV → R1} : KDep ((#[x, y] : Array Operand).toList.flatMap opdT) (k2 x y f) := fun r r' H => by
  show f ((cOpd x).run r) ((cOpd y).run r) = f ((cOpd x).run r') ((cOpd y).run r'); rw [(dep2 H).1, (dep2 H).2]
theorem k2h_dep {x y : Operand} {f : AH → AV → AV → RH} : KDep ((#[x, y] : Array Operand).toList.flatMap opdT) (k2h x y f) := fun r r' H E h => by
  show f h ((cOpd x).run r) ((cOpd y).run r) = f h ((cOpd x).run r') ((cOpd y).run r'); rw [(dep2 H).1, (dep2 H).2]
theorem k3_dep {x y z : Operand} {f : AV → AV → AV → R1} : KDep ((#[x, y, z] : Array Operand).toList.flatMap opdT) (k3 x y z f) := fun r r' H => by
  show f ((cOpd x).run r) ((cOpd y).run r) ((cOpd z).run r) = f ((cOpd x).run r') ((cOpd y).run r') ((cOpd z).run r'); rw [(dep3 H).1, (dep3 H).2.1, (dep3 H).2.2]
/-- memory with more in it -/
def More (h h' : AH) : Prop := ∀ i, hget h i ≠ .dead → hget h' i = hget h i
def KMono : KOp → Prop
  | .read f => ∀ r h h' v, More h h' → f r h = .ok v → f r h' = .ok v
  | _ => True
theorem More.cells {h h' : AH} (M : More h h') {ρ : Type} {b : Nat} {f : List AV → Nat → Bool → Bool → ρ} {d y : ρ} (e : onCells (hget h b) f d = y) (hd : d ≠ y) : onCells (hget h' b) f d = y := by
  obtain ⟨l, el, ro, wh, hb, _⟩ := onCells_inv e hd
  rw [M b (by rw [hb]; simp)]; exact e
theorem More.mapB {h h' : AH} (M : More h h') {ρ : Type} {b : Nat} {f : List (AV × AV) → ρ} {d y : ρ} (e : onMapB (hget h b) f d = y) (hd : d ≠ y) : onMapB (hget h' b) f d = y := by
  obtain ⟨l, hb, _⟩ := onMapB_inv e hd
  rw [M b (by rw [hb]; simp)]; exact e
theorem ldF_mono {t : TypeId} {h h' : AH} {b q : Nat} {v : AV} (M : More h h') (e : (ldF P t).run h b q = .ok v) : (ldF P t).run h' b q = .ok v := by
  unfold ldF at e ⊢
  split at e <;> first
    | exact M.cells e (by simp)
    | cases e
attribute [local irreducible] cOpd cOpds cOptO ldF
theorem cOp_dep : KDep (o.op.operands.toList.flatMap opdT) (cOp P nt o) ∧ KMono (cOp P nt o) := by
  unfold cOp
  cases okOper P nt o with
  | false => exact ⟨trivial, trivial⟩
  | true =>
    show KDep _ (cOp0 P o) ∧ KMono (cOp0 P o)
    unfold cOp0
    cases ho : o.op <;> try exact ⟨trivial, trivial⟩
    case move x => exact ⟨k1_dep, trivial⟩
    case assign x => exact ⟨k1_dep, trivial⟩
    case pick c x y => exact ⟨k3_dep, trivial⟩
    case alloc e =>
      simp only
      split
      · exact ⟨fun r r' H id => rfl, trivial⟩
      · exact ⟨trivial, trivial⟩
    case box e x => exact ⟨fun r r' H id => by simp only [dep1 H], trivial⟩
    case build t parts =>
      simp only
      split
      · exact ⟨fun r r' H => by
          have h1 := opds_dep (l := parts.toList.map (·.2)) (H.sub (fun t ht => by simpa [Op.operands] using ht))
          simp only [h1], trivial⟩
      · exact ⟨trivial, trivial⟩
    case buildSlice t len parts =>
      simp only
      split
      · split
        · split
          · exact ⟨fun r r' H id => by
              have h1 := opds_dep (l := parts.toList.map (·.2)) (H.sub (fun t ht => by simpa [Op.operands] using ht))
              simp only [h1], trivial⟩
          · exact ⟨trivial, trivial⟩
        · exact ⟨trivial, trivial⟩
      · exact ⟨trivial, trivial⟩
    case load t x =>
      refine ⟨fun r r' H h => by simp only [kg_cases, dep1 H], fun r h h' v M e => ?_⟩
      obtain ⟨b, q, hb, e1⟩ := onPtr_inv (show onPtr ((cOpd x).run r) (fun b q => (ldF P t).run h b q) .no = .ok v from e) (by simp)
      show onPtr ((cOpd x).run r) (fun b q => (ldF P t).run h' b q) .no = .ok v
      rw [hb]; exact ldF_mono M e1
    case store t x y =>
      simp only
      split
      · exact ⟨fun r r' H E h => by simp only [(dep2 H).1, (dep2 H).2], trivial⟩
      · exact ⟨trivial, trivial⟩
    case nilCheck x => exact ⟨k1_dep, trivial⟩
    case binOp op t x y yt => exact ⟨k2_dep, trivial⟩
    case unOp op t x => exact ⟨k1_dep, trivial⟩
    case convert s d x =>
      simp only
      unfold convF
      split
      · exact ⟨k1_dep, trivial⟩
      · exact ⟨k1_dep, trivial⟩
      · exact ⟨k1_dep, trivial⟩
      · split
        · refine ⟨fun r r' H h => by simp only [dep1 H], fun r h h' v M e => ?_⟩
          rcases onSl_inv (show onSl ((cOpd x).run r) (R1.ok (.str [])) (fun b q n _ _ => ldL h b q n (fun l => onOpt (bytesL l) (fun s => R1.ok (.str s)) R1.no) R1.no) R1.no = R1.ok v from e) (by simp) with ⟨hb, e1⟩ | ⟨b, q, n, c, es, hb, e1⟩
          · show onSl ((cOpd x).run r) (R1.ok (.str [])) (fun b q n _ _ => ldL h' b q n (fun l => onOpt (bytesL l) (fun s => R1.ok (.str s)) R1.no) R1.no) R1.no = R1.ok v
            rw [hb]; exact e1
          · show onSl ((cOpd x).run r) (R1.ok (.str [])) (fun b q n _ _ => ldL h' b q n (fun l => onOpt (bytesL l) (fun s => R1.ok (.str s)) R1.no) R1.no) R1.no = R1.ok v
            rw [hb]; exact M.cells e1 (by simp)
        · exact ⟨trivial, trivial⟩
      · split
        · exact ⟨fun r r' H id => by simp only [dep1 H], trivial⟩
        · exact ⟨trivial, trivial⟩
      · split
        · exact ⟨trivial, trivial⟩
        · refine ⟨fun r r' H h => by simp only [dep1 H], fun r h h' v M e => ?_⟩
          obtain ⟨b, q, hb, e1⟩ := onPtr_inv (show onPtr ((cOpd x).run r) (fun b q => onCells (hget h b) (fun l _ _ _ => sw (Nat.blt q (lenX l)) (R1.ok (.ptr b q)) R1.no) R1.no) R1.no = R1.ok v from e) (by simp)
          show onPtr ((cOpd x).run r) (fun b q => onCells (hget h' b) (fun l _ _ _ => sw (Nat.blt q (lenX l)) (R1.ok (.ptr b q)) R1.no) R1.no) R1.no = R1.ok v
          rw [hb]; exact M.cells e1 (by simp)
      · split
        · exact ⟨trivial, trivial⟩
        · refine ⟨fun r r' H h => by simp only [dep1 H], fun r h h' v M e => ?_⟩
          rename_i u _ _ _
          obtain ⟨b, q, hb, e1⟩ := onPtr_inv (show onPtr ((cOpd x).run r) (fun b q => onCells (hget h b) (fun l e _ wh => sw (andB wh (andB (Nat.beq q 0) (andB (Nat.beq e u) (Nat.beq (lenX l) (sizeT P u))))) (R1.ok (.ptr b q)) R1.no) R1.no) R1.no = R1.ok v from e) (by simp)
          show onPtr ((cOpd x).run r) (fun b q => onCells (hget h' b) (fun l e _ wh => sw (andB wh (andB (Nat.beq q 0) (andB (Nat.beq e u) (Nat.beq (lenX l) (sizeT P u))))) (R1.ok (.ptr b q)) R1.no) R1.no) R1.no = R1.ok v
          rw [hb]; exact M.cells e1 (by simp)
      · exact ⟨trivial, trivial⟩
    case makeInterface t x =>
      simp only
      split
      · exact ⟨trivial, trivial⟩
      · exact ⟨k1_dep, trivial⟩
      · exact ⟨trivial, trivial⟩
    case makeFunc f first cap =>
      cases f <;> try exact ⟨trivial, trivial⟩
      refine ⟨fun r r' H => ?_, trivial⟩
      have h1 := opds_dep (l := first.toList) (H.sub (fun t ht => by simp [Op.operands]; exact .inl (by simpa using ht)))
      have h2 := opds_dep (l := cap.toList) (H.sub (fun t ht => by simp [Op.operands]; exact .inr (by simpa using ht)))
      simp only [h1, h2]
    case makeMap t r =>
      cases r <;> try exact ⟨trivial, trivial⟩
      exact ⟨fun r r' H id => rfl, trivial⟩
    case makeSlice t l c =>
      simp only
      split
      · split
        · exact ⟨fun r r' H id => by simp only [(dep2 H).1, (dep2 H).2], trivial⟩
        · exact ⟨trivial, trivial⟩
      · exact ⟨trivial, trivial⟩
    case slice t x lo hi mx =>
      simp only
      have hd : ∀ f, KDep ((Op.slice t x lo hi mx).operands.toList.flatMap opdT) (kSl x lo hi mx f) := fun f r r' H => by
        have H : Agree ((#[x] ++ lo.toArray ++ hi.toArray ++ mx.toArray).toList.flatMap opdT) r r' := H
        simp only [Array.toList_append, List.flatMap_append] at H
        have h1 := opd_dep (H.sub (ms := opdT x) fun t ht => by simp [ht])
        have h2 := opt_dep (H.sub (ms := lo.toArray.toList.flatMap opdT) fun t ht => List.mem_append.2 (.inl (List.mem_append.2 (.inl (List.mem_append.2 (.inr ht))))))
        have h3 := opt_dep (H.sub (ms := hi.toArray.toList.flatMap opdT) fun t ht => List.mem_append.2 (.inl (List.mem_append.2 (.inr ht))))
        have h4 := opt_dep (H.sub (ms := mx.toArray.toList.flatMap opdT) fun t ht => List.mem_append.2 (.inr ht))
        show f ((cOpd x).run r) ((cOptO lo).run r) ((cOptO hi).run r) ((cOptO mx).run r) = f ((cOpd x).run r') ((cOptO lo).run r') ((cOptO hi).run r') ((cOptO mx).run r')
        rw [h1, h2, h3, h4]
      unfold sliceF
      split
      · split
        · exact ⟨trivial, trivial⟩
        · rename_i hm
          cases mx with
          | some y => exact absurd rfl hm
          | none => exact ⟨hd _, trivial⟩
      · split
        · split
          · exact ⟨trivial, trivial⟩
          · exact ⟨hd _, trivial⟩
        · exact ⟨trivial, trivial⟩
      · split
        · split
          · exact ⟨trivial, trivial⟩
          · exact ⟨hd _, trivial⟩
        · exact ⟨trivial, trivial⟩
      · exact ⟨trivial, trivial⟩
    case fieldAddr s x f =>
      simp only
      split
      · exact ⟨k1_dep, trivial⟩
      · exact ⟨trivial, trivial⟩
    case field s x f =>
      simp only
      split
      · exact ⟨k1_dep, trivial⟩
      · exact ⟨trivial, trivial⟩
    case indexAddr t x i =>
      simp only
      unfold indexAddrF
      split
      · split
        · exact ⟨k2_dep, trivial⟩
        · exact ⟨trivial, trivial⟩
      · split
        · exact ⟨k2_dep, trivial⟩
        · exact ⟨trivial, trivial⟩
      · exact ⟨trivial, trivial⟩
    case index t x i =>
      simp only
      unfold indexF
      split
      · exact ⟨k2_dep, trivial⟩
      · split
        · exact ⟨k2_dep, trivial⟩
        · exact ⟨trivial, trivial⟩
      · exact ⟨trivial, trivial⟩
    case lookup t m x c =>
      simp only
      unfold lookupF
      split
      · split
        · refine ⟨fun r r' H h => by simp only [(dep2 H).1, (dep2 H).2], fun r h h' v M e => ?_⟩
          change lookupV _ _ c h ((cOpd m).run r) ((cOpd x).run r) = .ok v at e
          change lookupV _ _ c h' ((cOpd m).run r) ((cOpd x).run r) = .ok v
          unfold lookupV at e ⊢
          obtain ⟨hk, e1⟩ := sw_inv e (by simp)
          rw [hk, sw_true]
          rcases onMapN_inv e1 (by simp) with ⟨hb, e2⟩ | ⟨b, hb, e2⟩
          · rw [hb]; exact e2
          · rw [hb]; exact M.mapB e2 (by simp)
        · exact ⟨trivial, trivial⟩
      · exact ⟨trivial, trivial⟩
    case mapUpdate t m x v =>
      simp only
      unfold updateF
      split
      · exact ⟨fun r r' H E h => by simp only [(dep3 H).1, (dep3 H).2.1, (dep3 H).2.2], trivial⟩
      · exact ⟨trivial, trivial⟩
    case insert t m x v =>
      simp only
      unfold updateF
      split
      · exact ⟨fun r r' H E h => by simp only [(dep3 H).1, (dep3 H).2.1, (dep3 H).2.2], trivial⟩
      · exact ⟨trivial, trivial⟩
    case range t x =>
      simp only
      split
      · exact ⟨fun r r' H id => by simp only [dep1 H], trivial⟩
      · exact ⟨trivial, trivial⟩
    case next it s =>
      cases s
      · exact ⟨trivial, trivial⟩
      · exact ⟨fun r r' H E h => by simp only [dep1 H], trivial⟩
    case extract x i => exact ⟨k1_dep, trivial⟩
    case call c =>
      obtain ⟨callee, args, ts⟩ := c
      simp only
      unfold cCall
      cases callee with
      | invoke r m => exact ⟨trivial, trivial⟩
      | value x =>
        have hl : (Op.call { callee := .value x, args := args, argTypes := ts }).operands.toList = x :: args.toList := by simp [Op.operands, Call.operands]
        have hgen : KDep ((Op.call { callee := .value x, args := args, argTypes := ts }).operands.toList.flatMap opdT) (.loud fun E r h => callD E.call ((cOpd x).run r) ((cOpds args.toList).run r) h) := fun r r' H E h => by
          rw [hl, List.flatMap_cons] at H
          have h1 := opd_dep (H.sub (ms := opdT x) fun t ht => List.mem_append.2 (.inl ht))
          have h2 := opds_dep (H.sub (ms := args.toList.flatMap opdT) fun t ht => List.mem_append.2 (.inr ht))
          simp only [h1, h2]
        cases x with
        | tmp t => exact ⟨hgen, trivial⟩
        | const v => exact ⟨hgen, trivial⟩
        | global g => exact ⟨hgen, trivial⟩
        | func f =>
          simp only
          unfold callF
          split
          · split
            · split
              · refine ⟨fun r r' H E h => ?_, trivial⟩
                rw [hl, List.flatMap_cons] at H
                have h2 := opds_dep (H.sub (ms := args.toList.flatMap opdT) fun t ht => List.mem_append.2 (.inr ht))
                simp only [h2]
              · exact ⟨trivial, trivial⟩
            · split
              · unfold externF
                have hsub : ∀ {l : List Operand}, args.toList = l → ∀ t ∈ l.flatMap opdT, t ∈ (Op.call { callee := .value (.func f), args := args, argTypes := ts }).operands.toList.flatMap opdT := by
                  intro l hla t ht
                  rw [hl, hla, List.flatMap_cons]
                  exact List.mem_append.2 (.inr ht)
                split
                · split
                  · rename_i s c hla
                    exact ⟨fun r r' H => k2_dep r r' (H.sub (hsub hla)), trivial⟩
                  · exact ⟨trivial, trivial⟩
                · split
                  · split
                    · rename_i s c hla
                      exact ⟨fun r r' H => k2_dep r r' (H.sub (hsub hla)), trivial⟩
                    · exact ⟨trivial, trivial⟩
                  · split
                    · split
                      · rename_i s hla
                        exact ⟨fun r r' H => k1_dep r r' (H.sub (hsub hla)), trivial⟩
                      · exact ⟨trivial, trivial⟩
                    · exact ⟨trivial, trivial⟩
              · exact ⟨trivial, trivial⟩
          · exact ⟨trivial, trivial⟩
      | builtin b =>
        have hsub : ∀ {l : List Operand}, args.toList = l → ∀ t ∈ l.flatMap opdT, t ∈ (Op.call { callee := .builtin b, args := args, argTypes := ts }).operands.toList.flatMap opdT := by
          intro l hla t ht
          have : (Op.call { callee := .builtin b, args := args, argTypes := ts }).operands.toList = args.toList := by simp [Op.operands, Call.operands]
          rw [this, hla]; exact ht
        simp only
        unfold builtinF
        split
        · rename_i x hla
          split
          · unfold lenF
            split
            · exact ⟨fun r r' H => k1_dep r r' (H.sub (hsub hla)), trivial⟩
            · exact ⟨fun r r' H => k1_dep r r' (H.sub (hsub hla)), trivial⟩
            · exact ⟨fun r r' H => rfl, trivial⟩
            · refine ⟨fun r r' H h => ?_, fun r h h' v M e => ?_⟩
              · have h1 := dep1 (x := x) (H.sub (hsub hla))
                simp only [h1]
              · rcases onMapN_inv (show onMapN ((cOpd x).run r) (R1.ok (.int 3 (Int.ofNat 0))) (fun b => onMapB (hget h b) (fun l => R1.ok (.int 3 (Int.ofNat (lenX l)))) R1.no) R1.no = R1.ok v from e) (by simp) with ⟨hb, e1⟩ | ⟨b, hb, e1⟩
                · show onMapN ((cOpd x).run r) (R1.ok (.int 3 (Int.ofNat 0))) (fun b => onMapB (hget h' b) (fun l => R1.ok (.int 3 (Int.ofNat (lenX l)))) R1.no) R1.no = R1.ok v
                  rw [hb]; exact e1
                · show onMapN ((cOpd x).run r) (R1.ok (.int 3 (Int.ofNat 0))) (fun b => onMapB (hget h' b) (fun l => R1.ok (.int 3 (Int.ofNat (lenX l)))) R1.no) R1.no = R1.ok v
                  rw [hb]; exact M.mapB e1 (by simp)
            · exact ⟨trivial, trivial⟩
          · exact ⟨trivial, trivial⟩
        · rename_i s x hla
          unfold appendF
          split
          · split
            · split
              · split
                · exact ⟨trivial, trivial⟩
                · exact ⟨fun r r' H => k2h_dep r r' (H.sub (hsub hla)), trivial⟩
              · exact ⟨trivial, trivial⟩
            · exact ⟨trivial, trivial⟩
          · exact ⟨trivial, trivial⟩
        · rename_i s x hla
          unfold copyF
          split
          · split
            · split
              · exact ⟨fun r r' H => k2h_dep r r' (H.sub (hsub hla)), trivial⟩
              · exact ⟨trivial, trivial⟩
            · exact ⟨trivial, trivial⟩
          · exact ⟨trivial, trivial⟩
        · rename_i s x hla
          exact ⟨fun r r' H => k2_dep r r' (H.sub (hsub hla)), trivial⟩
        · rename_i s x hla
          exact ⟨fun r r' H => k2_dep r r' (H.sub (hsub hla)), trivial⟩
        · rename_i x hla
          exact ⟨fun r r' H => k1_dep r r' (H.sub (hsub hla)), trivial⟩
        · rename_i s x hla
          split
          · split
            · exact ⟨fun r r' H => k2h_dep r r' (H.sub (hsub hla)), trivial⟩
            · exact ⟨trivial, trivial⟩
          · exact ⟨trivial, trivial⟩
        · exact ⟨trivial, trivial⟩
    case defer c =>
      simp only
      split
      · exact ⟨trivial, trivial⟩
      · exact ⟨trivial, trivial⟩
end
end Go.Proofs.YteahdpjeoeeemaaGreatDoor.Ax

namespace Go.Proofs.YteahdpjeoeeemaaGreatDoor.Ax
set_option linter.unusedVariables false
set_option linter.unusedSimpArgs false
set_option linter.unnecessarySimpa false

/-! values that are compared -/
theorem beq0_eq {x y : AV} (h : beq0 x y = true) : x = y := by
  cases x <;> cases y <;> first
    | rfl
    | (cases h; done)
    | (rename_i a b; cases a <;> cases b <;> first | rfl | cases h)
    | (have h := h
       simp only [beq0, onInt, onStr, onPtr, onSlice, onMap, andB_eq, beq_dec, eqI_eq, eqX_iff, Bool.and_eq_true, decide_eq_true_eq] at h
       simp [h])
theorem beqL_eq : ∀ {l m : List AV}, beqL l m = true → l = m
  | [], [], _ => rfl
  | [], _ :: _, h => by cases h
  | _ :: _, [], h => by cases h
  | x :: l, y :: m, h => by
    change sw (beq0 x y) (beqL l m) false = true at h
    obtain ⟨h1, h2⟩ := sw_inv h (by simp)
    rw [beq0_eq h1, beqL_eq h2]
theorem beq1_eq {x y : AV} (h : beq1 x y = true) : x = y := by
  unfold beq1 at h
  rw [orB_eq, orB_eq, Bool.or_eq_true, Bool.or_eq_true] at h
  rcases h with h | h | h
  · exact beq0_eq h
  · obtain ⟨l, rfl, h1⟩ := onAgg_inv h (by simp)
    obtain ⟨m, rfl, h2⟩ := onAgg_inv h1 (by simp)
    rw [beqL_eq h2]
  · obtain ⟨f, a, b, rfl, h1⟩ := onFunc_inv h (by simp)
    obtain ⟨g, c, d, rfl, h2⟩ := onFunc_inv h1 (by simp)
    rw [andB_eq, andB_eq, Bool.and_eq_true, Bool.and_eq_true, beq_dec, decide_eq_true_eq] at h2
    rw [h2.1, beqL_eq h2.2.1, beqL_eq h2.2.2]

/-! masks -/
theorem bit_eq (m i : Nat) : bit m i = m.testBit i := by
  unfold bit
  rw [Nat.testBit_eq_decide_div_mod_eq, beq_dec]
  have : Nat.land (Nat.shiftRight m i) 1 = m / 2 ^ i % 2 := by
    show (m >>> i) &&& 1 = _
    rw [Nat.and_one_is_mod, Nat.shiftRight_eq_div_pow]
  rw [this]
theorem bit_lt {m i j : Nat} (h : m < 2 ^ i) (hb : bit m j = true) : j < i := by
  rw [bit_eq] at hb
  rcases Nat.lt_or_ge j i with hj | hj
  · exact hj
  · rw [Nat.testBit_lt_two_pow (Nat.lt_of_lt_of_le h (Nat.pow_le_pow_right (by omega) hj))] at hb
    cases hb
theorem forceN_eq {ρ : Type} (n : Nat) (f : Nat → ρ) : forceN n f = f n := by cases n <;> rfl
theorem nthN'_eq (bs : List Nat) (j : Nat) : nthN' bs j = bs.getD j 0 := by
  unfold nthN'
  rw [dropX_eq]
  cases h : bs.drop j with
  | nil =>
    have hl : bs.length ≤ j := List.drop_eq_nil_iff.1 h
    show (0 : Nat) = _
    rw [List.getD_eq_getElem?_getD, List.getElem?_eq_none hl]; rfl
  | cons b t =>
    have : bs[j]? = some b := by
      have := congrArg (fun m => m[0]?) h
      simpa using this
    show b = _
    rw [List.getD_eq_getElem?_getD, this]; rfl
theorem elders_bit {acc : List Nat} {j : Nat} : ∀ {l : List Edge}, bit (elders acc l) j = true ↔ ∃ e ∈ l, Region.binds .any e = true ∧ (e.on = j ∨ bit (acc.getD e.on 0) j = true)
  | [] => by
    show bit 0 j = true ↔ _
    rw [bit_eq]; simp
  | e :: l => by
    have ih := elders_bit (acc := acc) (j := j) (l := l)
    show bit (sw (Region.binds .any e) (Nat.lor (Nat.lor (elders acc l) (Nat.pow 2 e.on)) (nthN' acc e.on)) (elders acc l)) j = true ↔ _
    cases hb : Region.binds .any e with
    | false =>
      rw [sw_false, ih]
      constructor
      · rintro ⟨e', h1, h2⟩; exact ⟨e', List.mem_cons_of_mem _ h1, h2⟩
      · rintro ⟨e', h1, h2, h3⟩
        cases h1 with
        | head => rw [hb] at h2; cases h2
        | tail _ h1 => exact ⟨e', h1, h2, h3⟩
    | true =>
      rw [sw_true]
      have hor : bit (Nat.lor (Nat.lor (elders acc l) (Nat.pow 2 e.on)) (nthN' acc e.on)) j = (bit (elders acc l) j || decide (e.on = j) || bit (acc.getD e.on 0) j) := by
        rw [bit_eq, bit_eq, bit_eq, nthN'_eq]
        show ((elders acc l ||| 2 ^ e.on) ||| acc.getD e.on 0).testBit j = _
        rw [Nat.testBit_or, Nat.testBit_or, Nat.testBit_two_pow]
      rw [hor, Bool.or_eq_true, Bool.or_eq_true, decide_eq_true_eq, ih]
      constructor
      · rintro ((⟨e', h1, h2⟩ | h) | h)
        · exact ⟨e', List.mem_cons_of_mem _ h1, h2⟩
        · exact ⟨e, by simp, hb, .inl h⟩
        · exact ⟨e, by simp, hb, .inr h⟩
      · rintro ⟨e', h1, h2, h3⟩
        cases h1 with
        | head => rcases h3 with h3 | h3
                  · exact .inl (.inr h3)
                  · exact .inr h3
        | tail _ h1 => exact .inl (.inl ⟨e', h1, h2, h3⟩)
theorem befs_spec : ∀ (l : List Oper) (acc : List Nat), (befs l acc).length = acc.length + l.length ∧ (befs l acc).take acc.length = acc ∧
    ∀ k o, l[k]? = some o → (befs l acc).getD (acc.length + k) 0 = elders ((befs l acc).take (acc.length + k)) o.after.toList
  | [], acc => ⟨rfl, by simp [befs], by simp⟩
  | o :: l, acc => by
    have he : befs (o :: l) acc = befs l (acc ++ [elders acc o.after.toList]) := by
      show forceN (elders acc o.after.toList) (fun m => befs l (catX acc [m])) = _
      rw [forceN_eq, catX_eq]
    obtain ⟨h1, h2, h3⟩ := befs_spec l (acc ++ [elders acc o.after.toList])
    rw [he]
    rw [List.length_append, List.length_singleton] at h1 h2 h3
    have h4 : (befs l (acc ++ [elders acc o.after.toList])).take acc.length = acc := by
      have := congrArg (List.take acc.length) h2
      rw [List.take_take, Nat.min_eq_left (by omega)] at this
      simpa using this
    refine ⟨by rw [h1, List.length_cons]; omega, h4, ?_⟩
    intro k o' hk
    cases k with
    | zero =>
      simp at hk; subst hk
      rw [Nat.add_zero, h4]
      have : (befs l (acc ++ [elders acc o.after.toList]))[acc.length]? = some (elders acc o.after.toList) := by
        have h5 := congrArg (fun m => m[acc.length]?) h2
        simp only [List.getElem?_take, if_pos (Nat.lt_succ_self acc.length)] at h5
        rw [h5]; simp
      rw [List.getD_eq_getElem?_getD, this]; rfl
    | succ k =>
      have := h3 k o' (by simpa using hk)
      rw [show acc.length + (k + 1) = acc.length + 1 + k by omega]
      exact this

/-! what a region that may be taken keeps to -/
structure RegionOk (ops : Array Oper) (bs : List Nat) : Prop where
  len : bs.length = ops.size
  ahead : ∀ i, i < ops.size → ∀ j, bit (bs.getD i 0) j = true → j < i
  edge : ∀ i o, ops[i]? = some o → ∀ e ∈ o.after, Region.binds .any e = true → bit (bs.getD i 0) e.on = true
  from_ : ∀ i o, ops[i]? = some o → ∀ j, bit (bs.getD i 0) j = true → ∃ e ∈ o.after, Region.binds .any e = true ∧ (e.on = j ∨ bit (bs.getD e.on 0) j = true)
  apart : ∀ i j oi oj, i < j → ops[i]? = some oi → ops[j]? = some oj → bit (bs.getD j 0) i = true ∨ ((∀ t, oi.dst = some t → t ∉ namesOf ops oj) ∧ (∀ t, oj.dst = some t → t ∉ namesOf ops oi))
theorem itsOf_mem {ops : Array Oper} : ∀ (l : List Oper) (bs : List Nat) (i k : Nat) (o : Oper) (m : Nat), l[k]? = some o → bs[k]? = some m → (⟨i + k, o.dst, namesOf ops o, m⟩ : It) ∈ itsOf ops l bs i
  | [], _, _, _, _, _, h, _ => by simp at h
  | _ :: _, [], _, _, _, _, _, h => by simp at h
  | o' :: l, m' :: bs, i, k, o, m, h1, h2 => by
    show _ ∈ (⟨i, o'.dst, namesOf ops o', m'⟩ : It) :: itsOf ops l bs (Nat.succ i)
    cases k with
    | zero => simp at h1 h2; subst h1; subst h2; simp
    | succ k =>
      have := itsOf_mem (ops := ops) l bs (Nat.succ i) k o m (by simpa using h1) (by simpa using h2)
      rw [show Nat.succ i + k = i + (k + 1) by omega] at this
      exact List.mem_cons_of_mem _ this
theorem listR_all {α : Type} {p : α → Bool} {q : α → Prop} (hq : ∀ x, p x = true → q x) : ∀ {l : List α}, listR true (fun x _ ih => andB (p x) ih) l = true → ∀ x ∈ l, q x
  | [], _, x, hx => by cases hx
  | y :: l, h, x, hx => by
    rw [listR_cons, andB_eq, Bool.and_eq_true] at h
    cases hx with
    | head => exact hq _ h.1
    | tail _ hx => exact listR_all hq h.2 x hx
theorem listR_all2 {α : Type} {p q : α → Bool} : ∀ {l : List α}, listR true (fun x _ ih => andB (p x) (andB (q x) ih)) l = true → ∀ x ∈ l, p x = true ∧ q x = true
  | [], _, x, hx => by cases hx
  | y :: l, h, x, hx => by
    rw [listR_cons, andB_eq, andB_eq, Bool.and_eq_true, Bool.and_eq_true] at h
    cases hx with
    | head => exact ⟨h.1, h.2.1⟩
    | tail _ hx => exact listR_all2 h.2.2 x hx
theorem clash_false {d : Option Nat} {ns : List Nat} (h : clash d ns = false) : ∀ t, d = some t → t ∉ ns := by
  intro t ht
  subst ht
  change listR false (fun x _ ih => sw (Nat.beq t x) true ih) ns = false at h
  induction ns with
  | nil => simp
  | cons x ns ih =>
    rw [listR_cons, beq_dec, sw_if] at h
    by_cases hx : t = x
    · simp [hx] at h
    · simp only [hx, decide_false, Bool.false_eq_true, if_false] at h
      simp [hx, ih h]
theorem okRegion_ok {ops : Array Oper} (h : okRegion ops (befs ops.toList []) = true) : RegionOk ops (befs ops.toList []) := by
  obtain ⟨h1, h2, h3⟩ := befs_spec ops.toList []
  generalize befs ops.toList [] = bs at h h1 h2 h3 ⊢
  simp only [List.length_nil, Nat.zero_add, Array.length_toList] at h1 h3
  have hmem : ∀ i o, ops[i]? = some o → (⟨i, o.dst, namesOf ops o, bs.getD i 0⟩ : It) ∈ itsOf ops ops.toList bs 0 := by
    intro i o ho
    have hi : i < ops.size := (Array.getElem?_eq_some_iff.1 ho).1
    have := itsOf_mem (ops := ops) ops.toList bs 0 i o (bs.getD i 0) (by simpa using ho) (by
      rw [List.getD_eq_getElem?_getD, List.getElem?_eq_getElem (by omega)]; rfl)
    rw [Nat.zero_add] at this; exact this
  have hall : ∀ q ∈ itsOf ops ops.toList bs 0, q.mask < 2 ^ q.i ∧ ∀ p ∈ itsOf ops ops.toList bs 0, okPair p q = true := by
    intro q hq
    have := listR_all2 (p := fun q : It => Nat.blt q.mask (Nat.pow 2 q.i)) (q := fun q : It => listR true (fun p _ ih' => andB (okPair p q) ih') (itsOf ops ops.toList bs 0)) (l := itsOf ops ops.toList bs 0) h q hq
    rw [blt_dec, decide_eq_true_eq] at this
    exact ⟨this.1, listR_all (fun p hp => hp) this.2⟩
  have ahead : ∀ i, i < ops.size → ∀ j, bit (bs.getD i 0) j = true → j < i := by
    intro i hi j hj
    obtain ⟨h4, _⟩ := hall _ (hmem i ops[i] (by simp [hi]))
    exact bit_lt h4 hj
  refine ⟨h1, ahead, ?_, ?_, ?_⟩
  · intro i o ho e he hb
    rw [h3 i o (by simpa using ho)]
    exact elders_bit.2 ⟨e, by simpa using he, hb, .inl rfl⟩
  · intro i o ho j hj
    have hj0 := hj
    rw [h3 i o (by simpa using ho)] at hj
    obtain ⟨e, he, hb, h4⟩ := elders_bit.1 hj
    refine ⟨e, by simpa using he, hb, h4.imp id (fun h5 => ?_)⟩
    rw [List.getD_eq_getElem?_getD, List.getElem?_take] at h5
    split at h5
    · rw [List.getD_eq_getElem?_getD]; exact h5
    · rw [bit_eq] at h5; simp at h5
  · intro i j oi oj hij hi hj
    have := (hall _ (hmem j oj hj)).2 _ (hmem i oi hi)
    unfold okPair at this
    rw [blt_dec, decide_eq_true hij, sw_true] at this
    cases hb : bit (bs.getD j 0) i with
    | true => exact .inl rfl
    | false =>
      simp only [hb, sw_false, notB_eq, orB_eq, Bool.not_eq_true', Bool.or_eq_false_iff] at this
      exact .inr ⟨clash_false this.1, clash_false this.2⟩

/-! the run in the text's order -/
section
variable {P : Program} {σ : Nat → ByteArray} {nt : Nat}

def Same (d d' : DS) : Prop := d'.h = d.h ∧ d'.old = d.old ∧ d'.pool = d.pool
def Skips (ops : Array Oper) (nt : Nat) (o : Oper) (r : Rg) : Prop :=
  ∃ t want j, o.guard = some (j, want) ∧ (ops[j]?).bind (·.dst) = some t ∧ t < nt ∧ onBool ((cOpd (.tmp t)).run r) (fun b => sw b want (notB want)) false = false
def Goes (ops : Array Oper) (nt : Nat) (o : Oper) (r : Rg) : Prop :=
  o.guard = none ∨ ∃ t want j, o.guard = some (j, want) ∧ (ops[j]?).bind (·.dst) = some t ∧ t < nt ∧ onBool ((cOpd (.tmp t)).run r) (fun b => sw b want (notB want)) false = true
inductive StepD (P : Program) (nt : Nat) (ops : Array Oper) (bs : List Nat) (E : Env) (nx0 : Nat) (oi : OI) (d d' : DS) (out : AV) : Prop
  | skip (hg : Skips ops nt oi.o d.r) (hout : out = undefA) (hs : Same d d') (hl : d'.log = d.log)
  | pure (f : Rg → R1) (hg : Goes ops nt oi.o d.r) (hop : cOp P nt oi.o = .pure f) (hf : f d.r = .ok out) (hs : Same d d') (hl : d'.log = d.log)
  | read (f : Rg → AH → R1) (hg : Goes ops nt oi.o d.r) (hop : cOp P nt oi.o = .read f) (hf : f d.r (withPool oi.m d.pool d.h) = .ok out) (hsame : sameIn f d.r out oi.m d.pool oi.n d.old = true) (hs : Same d d')
      (hl : d'.log = ⟨oi.i, f, d.r, out⟩ :: d.log)
  | alloc (f : Rg → Nat → RA) (b : Blk) (hg : Goes ops nt oi.o d.r) (hop : cOp P nt oi.o = .alloc f) (hf : f d.r (nx0 + oi.rank) = .ok out b) (hh : d'.h = d.h) (ho : d'.old = d.old) (hl : d'.log = d.log)
      (hp : d'.pool = ⟨oi.i, nx0 + oi.rank, b⟩ :: d.pool)
  | loud (f : Env → Rg → AH → RH) (hg : Goes ops nt oi.o d.r) (hop : cOp P nt oi.o = .loud f) (hfine : oi.fine = true) (hf : f E d.r (withPool oi.m d.pool d.h) = .ok out d'.h)
      (hagain : again bs oi.m (without oi.m d.pool) d'.h d.log = true) (ho : d'.old = d.h :: d.old) (hp : d'.pool = without oi.m d.pool) (hl : d'.log = d.log)
def FullStep (P : Program) (nt : Nat) (ops : Array Oper) (bs : List Nat) (E : Env) (nx0 : Nat) (oi : OI) (d d' : DS) (out : AV) : Prop :=
  d'.r = (setD oi.o.dst).run out d.r ∧ (∀ x, oi.o.dst = some x → x < nt) ∧ StepD P nt ops bs E nx0 oi d d' out

theorem onXD_inv {ρ : Type} {x : XD} {f : DS → ρ} {d y : ρ} (h : onXD x f d = y) (hd : d ≠ y) : ∃ s, x = .ok s ∧ f s = y := by cases x <;> first | exact absurd h hd | exact ⟨_, rfl, h⟩
theorem stepD_inv {ops : Array Oper} {bs : List Nat} {E : Env} {nx0 : Nat} {oi : OI} {d d2 : DS} {k : Env → Nat → DS → XD} (hg : Goes ops nt oi.o d.r)
    (ev : (stepD (cOp P nt oi.o) (setD oi.o.dst).run oi.i oi.m oi.rank oi.n bs oi.fine k).run E nx0 d = .ok d2) :
    ∃ d' out, FullStep P nt ops bs E nx0 oi d d' out ∧ k E nx0 d' = .ok d2 := by
  obtain ⟨r, h, old, pool, log⟩ := d
  have hd := (cOp_ok (P := P) (σ := fun _ => .empty) (nt := nt) (o := oi.o)).2
  generalize hop : cOp P nt oi.o = op at ev hd
  cases op with
  | pure f =>
    obtain ⟨v, hv, e1⟩ := onR1_inv (show onR1 (f r) (fun v => k E nx0 ⟨(setD oi.o.dst).run v r, h, old, pool, log⟩) .no = .ok d2 from ev) (by simp)
    exact ⟨⟨(setD oi.o.dst).run v r, h, old, pool, log⟩, v, ⟨rfl, hd (by simp), .pure f hg hop hv ⟨rfl, rfl, rfl⟩ rfl⟩, e1⟩
  | read f =>
    obtain ⟨v, hv, e1⟩ := onR1_inv (show onR1 (f r (withPool oi.m pool h)) (fun v => sw (sameIn f r v oi.m pool oi.n old) (k E nx0 ⟨(setD oi.o.dst).run v r, h, old, pool, ⟨oi.i, f, r, v⟩ :: log⟩) .no) .no = .ok d2 from ev) (by simp)
    obtain ⟨hs, e2⟩ := sw_inv e1 (by simp)
    exact ⟨⟨(setD oi.o.dst).run v r, h, old, pool, ⟨oi.i, f, r, v⟩ :: log⟩, v, ⟨rfl, hd (by simp), .read f hg hop hv hs ⟨rfl, rfl, rfl⟩ rfl⟩, e2⟩
  | alloc f =>
    obtain ⟨v, b, hv, e1⟩ := onRA_inv (show onRA (f r (Nat.add nx0 oi.rank)) (fun v b => k E nx0 ⟨(setD oi.o.dst).run v r, h, old, ⟨oi.i, Nat.add nx0 oi.rank, b⟩ :: pool, log⟩) .no = .ok d2 from ev) (by simp)
    exact ⟨⟨(setD oi.o.dst).run v r, h, old, ⟨oi.i, Nat.add nx0 oi.rank, b⟩ :: pool, log⟩, v, ⟨rfl, hd (by simp), .alloc f b hg hop hv rfl rfl rfl rfl⟩, e1⟩
  | loud f =>
    cases hfine : oi.fine with
    | false => rw [hfine] at ev; cases ev
    | true =>
      rw [hfine] at ev
      obtain ⟨v, h', hv, e1⟩ := onRH_inv (show onRH (f E r (withPool oi.m pool h)) (fun v h' => sw (again bs oi.m (without oi.m pool) h' log) (k E nx0 ⟨(setD oi.o.dst).run v r, h', h :: old, without oi.m pool, log⟩) .no) .no = .ok d2 from ev) (by simp)
      obtain ⟨ha, e2⟩ := sw_inv e1 (by simp)
      exact ⟨⟨(setD oi.o.dst).run v r, h', h :: old, without oi.m pool, log⟩, v, ⟨rfl, hd (by simp), .loud f hg hop hfine hv ha rfl rfl rfl⟩, e2⟩
  | dfr f => cases ev
  | none => cases ev
theorem cOneD_inv {ops : Array Oper} {bs : List Nat} {E : Env} {nx0 : Nat} {oi : OI} {d d2 : DS} {k : KD} (ev : (cOneD P nt ops bs oi k).run E nx0 d = .ok d2) :
    ∃ d' out, FullStep P nt ops bs E nx0 oi d d' out ∧ k.run E nx0 d' = .ok d2 := by
  unfold cOneD at ev
  cases hg : guardOf ops oi.o with
  | none =>
    simp only [hg] at ev
    exact stepD_inv (.inl (guardOf_none hg)) ev
  | some g =>
    obtain ⟨t, want⟩ := g
    obtain ⟨j, hj, ht⟩ := guardOf_some hg
    simp only at hj ht
    simp only [hg] at ev
    cases t with
    | none => cases ev
    | some t =>
      simp only at ev
      cases htn0 : andB (Nat.blt t nt) (okDst nt oi.o) with
      | false => rw [htn0] at ev; cases ev
      | true =>
        rw [htn0] at ev
        rw [andB_eq, Bool.and_eq_true, blt_dec, decide_eq_true_eq] at htn0
        obtain ⟨htn, hdst⟩ := htn0
        obtain ⟨r, h, old, pool, log⟩ := d
        have ev' : sw (onBool ((cOpd (.tmp t)).run r) (fun b => sw b want (notB want)) false) ((stepD (cOp P nt oi.o) (setD oi.o.dst).run oi.i oi.m oi.rank oi.n bs oi.fine k.run).run E nx0 ⟨r, h, old, pool, log⟩)
          (k.run E nx0 ⟨(setD oi.o.dst).run undefA r, h, old, pool, log⟩) = .ok d2 := ev
        cases hb : onBool ((cOpd (.tmp t)).run r) (fun b => sw b want (notB want)) false with
        | true =>
          rw [hb, sw_true] at ev'
          exact stepD_inv (.inr ⟨t, want, j, hj, ht, htn, hb⟩) ev'
        | false =>
          rw [hb, sw_false] at ev'
          exact ⟨⟨(setD oi.o.dst).run undefA r, h, old, pool, log⟩, undefA, ⟨rfl, okDst_lt hdst, .skip ⟨t, want, j, hj, ht, htn, hb⟩ rfl ⟨rfl, rfl, rfl⟩ rfl⟩, ev'⟩
theorem trace {ops : Array Oper} {bs : List Nat} {E : Env} {nx0 : Nat} : ∀ (l : List OI) (d d2 : DS), (cOpsD P nt ops bs l).run E nx0 d = .ok d2 →
    ∃ (st : Nat → DS) (out : Nat → AV), st 0 = d ∧ st l.length = d2 ∧ ∀ k oi, l[k]? = some oi → FullStep P nt ops bs E nx0 oi (st k) (st (k + 1)) (out k)
  | [], d, d2, h => ⟨fun _ => d, fun _ => undefA, rfl, by cases h; rfl, by simp⟩
  | oi :: l, d, d2, h => by
    obtain ⟨d', o1, h1, h2⟩ := cOneD_inv (k := cOpsD P nt ops bs l) h
    obtain ⟨st, out, h3, h4, h5⟩ := trace l d' d2 h2
    refine ⟨fun k => match k with | 0 => d | k + 1 => st k, fun k => match k with | 0 => o1 | k + 1 => out k, rfl, h4, ?_⟩
    intro k oi' hk
    cases k with
    | zero =>
      simp at hk; subst hk
      show FullStep P nt ops bs E nx0 oi d (st 0) o1
      rw [h3]; exact h1
    | succ k => exact h5 k oi' (by simpa using hk)
end
end Go.Proofs.YteahdpjeoeeemaaGreatDoor.Ax

/- A part of an executor of the model over an abstract memory, with the proof that what it says is what the model does: Checks that the kernel runs: values under a renumbering, blocks, maps. Functions known by one run over a small memory. set.table: out of a run of its beginning. Functions known by runs, put together. A law: a closed run, and what it leaves. -/
import Derived.Test.YteahdpjeoeeemaaGreatDoorAx8
import Derived.Maps.Own
namespace Go.Proofs.YteahdpjeoeeemaaGreatDoor.Ax
set_option linter.unusedVariables false
set_option linter.unusedSimpArgs false
set_option linter.unnecessarySimpa false

noncomputable section defs
/-- is a value another one, its blocks renumbered? -/
def eqR (ξ : Nat → Nat) (v : AV) : AV → Bool :=
  AV.rec (motive_1 := fun _ => AV → Bool) (motive_2 := fun _ => List AV → Bool)
    (fun _ => false)
    (fun b u => onBool u (fun c => sw b c (notB c)) false)
    (fun k n u => onInt u (fun k' m => sw (Nat.beq k k') (eqI n m) false) false)
    (fun s u => onStr u (fun t => eqX s t) false)
    (fun _ _ => false)
    (fun u => onPtrN u true (fun _ _ => false) false)
    (fun b o u => onPtr u (fun b' o' => sw (Nat.beq (ξ b) b') (Nat.beq o o') false) false)
    (fun u => onSl u true (fun _ _ _ _ _ => false) false)
    (fun b o n c e u => onSlice u (fun b' o' n' c' e' => sw (Nat.beq (ξ b) b') (sw (Nat.beq o o') (sw (Nat.beq n n') (sw (Nat.beq c c') (Nat.beq e e') false) false) false) false) false)
    (fun u => onMapN u true (fun _ => false) false)
    (fun b u => onMap u (fun b' => Nat.beq (ξ b) b') false)
    (fun u => onFuncN u true (fun _ _ _ => false) false)
    (fun f _ _ iha ihc u => onFunc u (fun g x y => sw (Nat.beq f g) (sw (iha x) (ihc y) false) false) false)
    (fun u => onIf u true (fun _ _ => false) false)
    (fun t _ ih u => onIf u false (fun t' v' => sw (Nat.beq t t') (ih v') false) false)
    (fun _ ih u => onAgg u ih false)
    (fun _ ih u => onTup u ih false)
    (fun _ _ => false) (fun _ _ => false)
    (fun m => onList m (fun _ _ => false) true)
    (fun _ _ ihv ihl m => onList m (fun x t => sw (ihv x) (ihl t) false) false) v
def eqRL (ξ : Nat → Nat) (l : List AV) : List AV → Bool :=
  listR (fun m => onList m (fun _ _ => false) true) (fun v _ ih m => onList m (fun x t => sw (eqR ξ v x) (ih t) false) false) l
def eqRK (ξ : Nat → Nat) (l : List (AV × AV)) : List (AV × AV) → Bool :=
  listR (fun m => onList m (fun _ _ => false) true) (fun e _ ih m => onList m (fun x t => sw (eqR ξ e.1 x.1) (sw (eqR ξ e.2 x.2) (ih t) false) false) false) l
def eqBk (ξ : Nat → Nat) (c : LB) (b : Blk) : Bool :=
  @LB.casesOn (fun _ => Bool) c (fun c => onCells b (fun l e ro wh => sw (Nat.beq c.e e) (sw (sw c.ro ro (notB ro)) (sw (sw c.wh wh (notB wh)) (eqRL ξ c.l l) false) false) false) false)
    (fun m => onMapB b (fun l => eqRK ξ m l) false)
/-- the blocks of a list lie in a memory under their new numbers -/
def eqBks (ξ : Nat → Nat) (h : AH) (lit : List LB) : Nat → Bool :=
  listR (fun _ => true) (fun c _ ih k => sw (eqBk ξ c (hget h (ξ k))) (ih (Nat.succ k)) false) lit
def plainX (k : AV) : Bool := onNum k (fun _ _ => true) (fun _ => true) false
def lbOk (c : LB) : Bool := @LB.casesOn (fun _ => Bool) c (fun _ => true) (fun m => listR true (fun e _ ih => sw (plainX e.1) ih false) m)
def lbsOk (l : List LB) : Bool := listR true (fun c _ ih => sw (lbOk c) ih false) l
/-- numbers out of a list; behind it: big -/
def nthB (l : List Nat) (big : Nat) (k : Nat) : Nat := onList (dropX k l) (fun b _ => b) big
def inN (x : Nat) (l : List Nat) : Bool := listR false (fun y _ ih => sw (Nat.beq x y) true ih) l
def apartN (l : List Nat) : Bool := listR true (fun x t ih => sw (inN x t) false ih) l
def allN (p : Nat → Bool) (l : List Nat) : Bool := listR true (fun x _ ih => sw (p x) ih false) l
end defs

section
variable {ξ : Nat → Nat}
theorem sw_and {a b : Bool} (h : sw a b false = true) : a = true ∧ b = true := by
  cases a with
  | false => cases h
  | true => exact ⟨rfl, h⟩
theorem nbeq {a b : Nat} (h : Nat.beq a b = true) : a = b := Nat.eq_of_beq_eq_true h
theorem eqI_tr {a b : Int} (h : eqI a b = true) : a = b := by
  cases a <;> cases b <;> first | (have := nbeq h; subst this; rfl) | cases h
theorem eqB_eq {a b : Bool} (h : sw a b (notB b) = true) : a = b := by cases a <;> cases b <;> first | rfl | cases h
theorem eqX_eq {a b : List Nat} (h : eqX a b = true) : a = b := by rw [eqX_iff, decide_eq_true_eq] at h; exact h
theorem eqR_eq (v : AV) : ∀ u, eqR ξ v u = true → u = ren ξ v := by
  refine AV.rec (motive_1 := fun v => ∀ u, eqR ξ v u = true → u = ren ξ v) (motive_2 := fun l => ∀ m, (@AV.rec_1 (fun _ => AV → Bool) (fun _ => List AV → Bool)
    (fun _ => false)
    (fun b u => onBool u (fun c => sw b c (notB c)) false)
    (fun k n u => onInt u (fun k' m => sw (Nat.beq k k') (eqI n m) false) false)
    (fun s u => onStr u (fun t => eqX s t) false)
    (fun _ _ => false)
    (fun u => onPtrN u true (fun _ _ => false) false)
    (fun b o u => onPtr u (fun b' o' => sw (Nat.beq (ξ b) b') (Nat.beq o o') false) false)
    (fun u => onSl u true (fun _ _ _ _ _ => false) false)
    (fun b o n c e u => onSlice u (fun b' o' n' c' e' => sw (Nat.beq (ξ b) b') (sw (Nat.beq o o') (sw (Nat.beq n n') (sw (Nat.beq c c') (Nat.beq e e') false) false) false) false) false)
    (fun u => onMapN u true (fun _ => false) false)
    (fun b u => onMap u (fun b' => Nat.beq (ξ b) b') false)
    (fun u => onFuncN u true (fun _ _ _ => false) false)
    (fun f _ _ iha ihc u => onFunc u (fun g x y => sw (Nat.beq f g) (sw (iha x) (ihc y) false) false) false)
    (fun u => onIf u true (fun _ _ => false) false)
    (fun t _ ih u => onIf u false (fun t' v' => sw (Nat.beq t t') (ih v') false) false)
    (fun _ ih u => onAgg u ih false)
    (fun _ ih u => onTup u ih false)
    (fun _ _ => false) (fun _ _ => false)
    (fun m => onList m (fun _ _ => false) true)
    (fun _ _ ihv ihl m => onList m (fun x t => sw (ihv x) (ihl t) false) false) l) m = true → m = renL ξ l) ?_ ?_ ?_ ?_ ?_ ?_ ?_ ?_ ?_ ?_ ?_ ?_ ?_ ?_ ?_ ?_ ?_ ?_ ?_ ?_ ?_ v
  · intro u h; cases h
  · intro b u h
    cases u <;> first | (have := eqB_eq h; subst this; rfl) | cases h
  · intro k n u h
    cases u <;> first | (obtain ⟨h1, h2⟩ := sw_and h; have := nbeq h1; subst this; have := eqI_tr h2; subst this; rfl) | cases h
  · intro s u h
    cases u <;> first | (have := eqX_eq h; subst this; rfl) | cases h
  · intro i u h; cases h
  · intro u h
    cases u <;> first | rfl | cases h
  · intro b o u h
    cases u <;> first | (obtain ⟨h1, h2⟩ := sw_and h; have := nbeq h1; subst this; have := nbeq h2; subst this; rfl) | cases h
  · intro u h
    cases u <;> first | rfl | cases h
  · intro b o n c e u h
    cases u <;> first | (obtain ⟨h1, h⟩ := sw_and h; obtain ⟨h2, h⟩ := sw_and h; obtain ⟨h3, h⟩ := sw_and h; obtain ⟨h4, h5⟩ := sw_and h; have := nbeq h1; subst this; have := nbeq h2; subst this; have := nbeq h3; subst this; have := nbeq h4; subst this; have := nbeq h5; subst this; rfl) | cases h
  · intro u h
    cases u <;> first | rfl | cases h
  · intro b u h
    cases u <;> first | (have := nbeq h; subst this; rfl) | cases h
  · intro u h
    cases u <;> first | rfl | cases h
  · intro f a c iha ihc u h
    cases u <;> first | (obtain ⟨h1, h⟩ := sw_and h; obtain ⟨h2, h3⟩ := sw_and h; have := nbeq h1; subst this; rw [iha _ h2, ihc _ h3]; rfl) | cases h
  · intro u h
    cases u <;> first | rfl | cases h
  · intro t v ih u h
    cases u <;> first | (obtain ⟨h1, h2⟩ := sw_and h; have h3 := nbeq h1; have h4 := ih _ h2; rw [h3, h4]; rfl) | cases h
  · intro l ih u h
    cases u <;> first | (rw [ih _ h]; rfl) | cases h
  · intro l ih u h
    cases u <;> first | (rw [ih _ h]; rfl) | cases h
  · intro l u h; cases h
  · intro l u h; cases h
  · intro m h
    cases m <;> first | rfl | cases h
  · intro v l ihv ihl m h
    cases m with
    | nil => cases h
    | cons x t =>
      obtain ⟨h1, h2⟩ := sw_and h
      rw [ihv _ h1, ihl _ h2]; rfl
theorem eqRL_eq : ∀ (l m : List AV), eqRL ξ l m = true → m = renL ξ l
  | [], m, h => by cases m <;> first | rfl | cases h
  | v :: l, m, h => by
    cases m with
    | nil => cases h
    | cons x t =>
      obtain ⟨h1, h2⟩ := sw_and (show sw (eqR ξ v x) (eqRL ξ l t) false = true from h)
      rw [eqR_eq v x h1, eqRL_eq l t h2]; rfl
theorem ren_plain {k : AV} (h : plainX k = true) : ren ξ k = k ∧ plainKey k = true := by
  cases k <;> first | exact ⟨rfl, rfl⟩ | cases h
theorem eqRK_eq : ∀ (l m : List (AV × AV)), eqRK ξ l m = true → m = l.map fun e => (ren ξ e.1, ren ξ e.2)
  | [], m, h => by cases m <;> first | rfl | cases h
  | e :: l, m, h => by
    cases m with
    | nil => cases h
    | cons x t =>
      obtain ⟨h1, h⟩ := sw_and (show sw (eqR ξ e.1 x.1) (sw (eqR ξ e.2 x.2) (eqRK ξ l t) false) false = true from h)
      obtain ⟨h2, h3⟩ := sw_and h
      rw [List.map_cons, ← eqR_eq _ _ h1, ← eqR_eq _ _ h2, ← eqRK_eq l t h3]
theorem plain_all : ∀ {m : List (AV × AV)}, listR true (fun e _ ih => sw (plainX e.1) ih false) m = true → ∀ e ∈ m, plainX e.1 = true
  | [], _, e, he => by cases he
  | x :: m, h, e, he => by
    obtain ⟨h1, h2⟩ := sw_and (show sw (plainX x.1) (listR true (fun e _ ih => sw (plainX e.1) ih false) m) false = true from h)
    rcases List.mem_cons.1 he with rfl | he
    · exact h1
    · exact plain_all h2 e he
theorem eqRK_renKV {l m : List (AV × AV)} (h : eqRK ξ l m = true) (hp : ∀ e ∈ l, plainX e.1 = true) : m = renKV ξ l := by
  rw [eqRK_eq l m h]
  exact List.map_congr_left fun e he => by rw [(ren_plain (hp e he)).1]
theorem lbOk_ok {c : LB} (h : lbOk c = true) : c.ok := by
  cases c with
  | cells c => trivial
  | map m => exact fun e he => (ren_plain (ξ := fun b => b) (plain_all h e he)).2
theorem eqBk_eq {c : LB} {b : Blk} (h : eqBk ξ c b = true) (hok : lbOk c = true) : b = c.blk ξ := by
  cases c with
  | cells c =>
    cases b <;> first | cases h | skip
    rename_i l e ro wh
    obtain ⟨h1, h⟩ := sw_and (show sw (Nat.beq c.e e) (sw (sw c.ro ro (notB ro)) (sw (sw c.wh wh (notB wh)) (eqRL ξ c.l l) false) false) false = true from h)
    obtain ⟨h2, h⟩ := sw_and h
    obtain ⟨h3, h4⟩ := sw_and h
    show _ = Blk.cells (renL ξ c.l) c.e c.ro c.wh
    rw [eqRL_eq _ _ h4, nbeq h1, eqB_eq h2, eqB_eq h3]
  | map m =>
    cases b <;> first | cases h | skip
    rename_i l
    show _ = Blk.map (renKV ξ m)
    rw [eqRK_renKV (show eqRK ξ m l = true from h) (plain_all hok)]
theorem lbsOk_all : ∀ {l : List LB}, lbsOk l = true → ∀ c ∈ l, lbOk c = true
  | [], _, c, hc => by cases hc
  | x :: l, h, c, hc => by
    obtain ⟨h1, h2⟩ := sw_and (show sw (lbOk x) (lbsOk l) false = true from h)
    rcases List.mem_cons.1 hc with rfl | hc
    · exact h1
    · exact lbsOk_all h2 c hc
theorem eqBks_eq {h : AH} : ∀ {lit : List LB} {n : Nat}, eqBks ξ h lit n = true → lbsOk lit = true → ∀ (k : Nat) (c : LB), lit[k]? = some c → hget h (ξ (n + k)) = c.blk ξ
  | [], _, _, _, k, c, hc => by simp at hc
  | x :: l, n, h1, h2, k, c, hc => by
    obtain ⟨h3, h4⟩ := sw_and (show sw (eqBk ξ x (hget h (ξ n))) (eqBks ξ h l (Nat.succ n)) false = true from h1)
    obtain ⟨h5, h6⟩ := sw_and (show sw (lbOk x) (lbsOk l) false = true from h2)
    cases k with
    | zero => simp at hc; subst hc; exact eqBk_eq h3 h5
    | succ k =>
      have := eqBks_eq h4 h6 k c (by simpa using hc)
      rw [← this]; congr 2; omega
theorem inN_iff {x : Nat} : ∀ {l : List Nat}, inN x l = true ↔ x ∈ l
  | [] => by simp [inN, listR]
  | y :: l => by
    show sw (Nat.beq x y) true (inN x l) = true ↔ _
    rw [beq_dec, List.mem_cons]
    by_cases h : x = y
    · simp [h, sw_true]
    · rw [decide_eq_false h, sw_false, inN_iff]; simp [h]
theorem apartN_ok : ∀ {l : List Nat}, apartN l = true → l.Nodup
  | [], _ => List.nodup_nil
  | x :: l, h => by
    have h : sw (inN x l) false (apartN l) = true := h
    cases hx : inN x l with
    | true => rw [hx] at h; cases h
    | false =>
      rw [hx, sw_false] at h
      exact List.nodup_cons.2 ⟨fun hm => absurd (inN_iff.2 hm) (by rw [hx]; simp), apartN_ok h⟩
theorem allN_ok {p : Nat → Bool} : ∀ {l : List Nat}, allN p l = true → ∀ x ∈ l, p x = true
  | [], _, x, hx => by cases hx
  | y :: l, h, x, hx => by
    obtain ⟨h1, h2⟩ := sw_and (show sw (p y) (allN p l) false = true from h)
    rcases List.mem_cons.1 hx with rfl | hx
    · exact h1
    · exact allN_ok h2 x hx
theorem nthB_lt {l : List Nat} {big k : Nat} (h : k < l.length) : nthB l big k = l[k] := by
  unfold nthB
  rw [dropX_eq, List.drop_eq_getElem_cons h]; rfl
theorem nthB_ge {l : List Nat} {big k : Nat} (h : l.length ≤ k) : nthB l big k = big := by
  unfold nthB
  rw [dropX_eq, List.drop_eq_nil_of_le h]; rfl
end
end Go.Proofs.YteahdpjeoeeemaaGreatDoor.Ax

namespace Go.Proofs.YteahdpjeoeeemaaGreatDoor.Ax
set_option linter.unusedVariables false
set_option linter.unusedSimpArgs false
set_option linter.unnecessarySimpa false

noncomputable section defs
def CL.raw (c : CL) : Blk := .cells c.l c.e c.ro c.wh
/-- a small memory: the first global (or nothing), and some blocks -/
def hcOf (NG : Nat) (a : Blk) (ls : List CL) : AH := puts (ls.map CL.raw) ⟨Hp.set 5 0 a (Hp.fill .dead 5), NG⟩
/-- how its numbers stand to those of a greater one -/
def muOf (NG : Nat) (bs : List Nat) (nx : Nat) (i : Nat) : Nat := sw (Nat.blt i NG) i (nthB bs (Nat.add nx i) (Nat.sub i NG))
/-- a value without blocks, one cell -/
def flatV (v : AV) : Bool := @AV.casesOn (fun _ => Bool) v false (fun _ => true) (fun _ _ => true) (fun _ => true) (fun _ => false) true (fun _ _ => false) true (fun _ _ _ _ _ => false) true (fun _ => false) true (fun _ _ _ => false) true (fun _ _ => false) (fun _ => false) (fun _ => false) (fun _ => false) (fun _ => false)
def flatL (l : List AV) : Bool := listR true (fun v _ ih => sw (flatV v) ih false) l
/-- the blocks that values name, from the left -/
def blksA (v : AV) : List Nat :=
  AV.rec (motive_1 := fun _ => List Nat) (motive_2 := fun _ => List Nat) [] (fun _ => []) (fun _ _ => []) (fun _ => []) (fun _ => []) [] (fun b _ => [b]) [] (fun b _ _ _ _ => [b]) [] (fun b => [b]) [] (fun _ _ _ x y => catX x y) [] (fun _ _ x => x) (fun _ x => x) (fun _ x => x) (fun _ => []) (fun _ => []) [] (fun _ _ x y => catX x y) v
def blksL (l : List AV) : List Nat := listR [] (fun v _ ih => catX (blksA v) ih) l
def newS (lit : List LB) (v0 : AV) (h : AH) : RH := sw (Nat.ble (Nat.add h.nx (lenX lit)) most) (.ok (ren (Nat.add h.nx) v0) (puts (lit.map (LB.blk (Nat.add h.nx))) h)) .no

/-- what is known of a function -/
structure Spec : Type where
  f : Nat
  NG : Nat
  a : Option CL
  ls : List CL
  args : List AV
  lit : List LB
  v : AV
  xs : List Nat
  big : Nat
def Spec.blk0 (K : Spec) : Blk := @Option.casesOn CL (fun _ => Blk) K.a .dead CL.raw
def Spec.hc (K : Spec) : AH := hcOf K.NG K.blk0 K.ls
def Spec.xi (K : Spec) : Nat → Nat := nthB K.xs K.big
def Spec.aOk (K : Spec) (h : AH) : Bool := @Option.casesOn CL (fun _ => Bool) K.a true (fun c => eqBk (fun b => b) (.cells c) (hget h 0))
def Spec.run (K : Spec) (args : List AV) (h : AH) : RH :=
  sw (Nat.beq (lenX (blksL args)) (lenX K.ls)) (sw (apartN (blksL args)) (sw (allN (fun b => sw (Nat.ble K.NG b) (Nat.blt b most) false) (blksL args)) (sw (eqBks (nthB (blksL args) 0) h (K.ls.map LB.cells) 0) (sw (K.aOk h)
    (sw (eqRL (muOf K.NG (blksL args) h.nx) K.args args) (newS K.lit K.v h) .no) .no) .no) .no) .no) .no
def Spec.flat (K : Spec) : Bool := sw (@Option.casesOn CL (fun _ => Bool) K.a true (fun c => flatL c.l)) (listR true (fun c _ ih => sw (flatL c.l) ih false) K.ls) false
/-- what a run over the small memory must show -/
def Spec.chk (K : Spec) (v : AV) (h' : AH) : Bool :=
  sw (eqR K.xi K.v v) (sw (eqBks K.xi h' K.lit 0) (sw (K.aOk h') (sw (eqBks (fun k => Nat.add K.NG k) h' (K.ls.map LB.cells) 0) (Nat.ble h'.nx K.big) false) false) false) false
def Spec.pre (K : Spec) : Bool :=
  sw K.flat (sw (lbsOk K.lit) (sw (Nat.beq (lenX K.xs) (lenX K.lit)) (sw (apartN K.xs) (sw (allN (fun b => sw (Nat.ble (Nat.add K.NG (lenX K.ls)) b) (Nat.blt b most) false) K.xs) (sw (Nat.ble 1 K.NG) (Nat.ble (Nat.add K.NG (lenX K.ls)) most) false) false) false) false) false) false
def orS (s t : List AV → AH → RH) (args : List AV) (h : AH) : RH := @RH.casesOn (fun _ => RH) (s args h) (t args h) (fun v h => .ok v h)
end defs

theorem ren_flat {μ : Nat → Nat} {v : AV} (h : flatV v = true) : ren μ v = v := by cases v <;> first | rfl | cases h
theorem renL_flat {μ : Nat → Nat} : ∀ {l : List AV}, flatL l = true → renL μ l = l
  | [], _ => rfl
  | v :: l, h => by
    obtain ⟨h1, h2⟩ := sw_and (show sw (flatV v) (flatL l) false = true from h)
    show ren μ v :: renL μ l = _
    rw [ren_flat h1, renL_flat h2]
theorem blk_flat {μ : Nat → Nat} {c : CL} (h : flatL c.l = true) : (LB.cells c).blk μ = c.raw := by
  show Blk.cells (renL μ c.l) c.e c.ro c.wh = _
  rw [renL_flat h]; rfl
theorem hcOf_nx (NG : Nat) (a : Blk) (ls : List CL) : (hcOf NG a ls).nx = NG + ls.length := by
  unfold hcOf; rw [puts_nx, List.length_map]
theorem hcOf_get {NG : Nat} {a : Blk} {ls : List CL} (h1 : 1 ≤ NG) (hm : NG + ls.length ≤ most) {i : Nat} (hi : i < most) :
    hget (hcOf NG a ls) i = if i < NG then (if i = 0 then a else .dead) else ((ls[i - NG]?).map CL.raw).getD .dead := by
  have h0 : ∀ i, i < most → hget ⟨Hp.set 5 0 a (Hp.fill .dead 5), NG⟩ i = if i = 0 then a else .dead := by
    intro i hi
    rw [hget_set ⟨Hp.fill .dead 5, NG⟩ 0 i NG a (by unfold most; omega) hi]
    by_cases e : i = 0
    · rw [if_pos e, if_pos e]
    · rw [if_neg e, if_neg e]; exact Hp.get_fill ..
  unfold hcOf
  rw [puts_get _ _ i (by rw [List.length_map]; exact hm) hi]
  show (if i < NG then _ else _) = _
  by_cases e : i < NG
  · rw [if_pos e, if_pos e, h0 i hi]
  · rw [if_neg e, if_neg e, h0 i hi, if_neg (by omega), List.getElem?_map]

theorem Spec.flat_ok {K : Spec} (h : K.flat = true) : (∀ c, K.a = some c → flatL c.l = true) ∧ ∀ c ∈ K.ls, flatL c.l = true := by
  obtain ⟨h1, h2⟩ := sw_and (show sw (@Option.casesOn CL (fun _ => Bool) K.a true (fun c => flatL c.l)) (listR true (fun c _ ih => sw (flatL c.l) ih false) K.ls) false = true from h)
  refine ⟨fun c hc => by rw [hc] at h1; exact h1, ?_⟩
  generalize K.ls = l at h2
  induction l with
  | nil => intro c hc; cases hc
  | cons x l ih =>
    obtain ⟨h3, h4⟩ := sw_and (show sw (flatL x.l) (listR true (fun c _ ih => sw (flatL c.l) ih false) l) false = true from h2)
    intro c hc
    rcases List.mem_cons.1 hc with rfl | hc
    · exact h3
    · exact ih h4 c hc
theorem lbs_cells : ∀ (l : List CL), lbsOk (l.map LB.cells) = true
  | [] => rfl
  | x :: l => lbs_cells l

section
variable {P : Program} {σ : Nat → ByteArray}

structure SpecOk (P : Program) (σ : Nat → ByteArray) (K : Spec) (hc' : AH) : Prop where
  enter : ∀ (as : Array Value) (w : World), (callFunc K.f as).run P w = .ok (.enter K.f as) w
  ng : K.NG = P.globals.size
  pre : K.pre = true
  same : ∀ c, K.a = some c → hget hc' 0 = c.raw
  sames : ∀ (k : Nat) (c : CL), K.ls[k]? = some c → hget hc' (K.NG + k) = c.raw
  blks : ∀ (k : Nat) (c : LB), K.lit[k]? = some c → hget hc' (K.xi k) = c.blk K.xi
  big : hc'.nx ≤ K.big
  run : ∀ (ρ : Rho) (w : World) (xs : List Value), Rel P.globals.size ρ σ K.hc w → conL ρ σ K.args = some xs → Calls P K.f xs.toArray w (Back P σ ρ K.hc w (ren K.xi K.v) hc')

theorem Spec.aOk_get {K : Spec} {h : AH} {c : CL} (ha : K.a = some c) (hf : flatL c.l = true) (h1 : K.aOk h = true) : hget h 0 = c.raw := by
  unfold Spec.aOk at h1
  rw [ha] at h1
  have := eqBk_eq (c := .cells c) h1 rfl
  rw [this, blk_flat hf]
theorem Spec.sum {K : Spec} {hc' : AH} (H : SpecOk P σ K hc') {args : List AV} {h h' : AH} {v : AV} (e : K.run args h = .ok v h') {ρ : Rho} {w : World} {xs : List Value} (R : Rel P.globals.size ρ σ h w) (hxs : conL ρ σ args = some xs) :
    Calls P K.f xs.toArray w (Back P σ ρ h w v h') := by
  obtain ⟨p1, p⟩ := sw_and (show sw K.flat (sw (lbsOk K.lit) (sw (Nat.beq (lenX K.xs) (lenX K.lit)) (sw (apartN K.xs) (sw (allN (fun b => sw (Nat.ble (Nat.add K.NG (lenX K.ls)) b) (Nat.blt b most) false) K.xs) (sw (Nat.ble 1 K.NG) (Nat.ble (Nat.add K.NG (lenX K.ls)) most) false) false) false) false) false) false = true from H.pre)
  obtain ⟨p2, p⟩ := sw_and p
  obtain ⟨p3, p⟩ := sw_and p
  obtain ⟨p4, p⟩ := sw_and p
  obtain ⟨p5, p⟩ := sw_and p
  obtain ⟨p6, p7⟩ := sw_and p
  have p3 := nbeq p3
  rw [lenX_eq, lenX_eq] at p3
  have p4 := apartN_ok p4
  have p5 : ∀ b ∈ K.xs, K.NG + K.ls.length ≤ b ∧ b < most := fun b hb => by
    obtain ⟨h1, h2⟩ := sw_and (allN_ok p5 b hb)
    rw [ble_dec, decide_eq_true_eq, lenX_eq] at h1
    rw [blt_dec, decide_eq_true_eq] at h2
    exact ⟨h1, h2⟩
  rw [ble_dec, decide_eq_true_eq] at p6 p7
  rw [lenX_eq] at p7
  have p7 : K.NG + K.ls.length ≤ most := p7
  obtain ⟨f1, f2⟩ := Spec.flat_ok p1
  unfold Spec.run at e
  generalize hbs : blksL args = bs at e
  obtain ⟨e1, e⟩ := sw_inv e (by simp)
  obtain ⟨e2, e⟩ := sw_inv e (by simp)
  obtain ⟨e3, e⟩ := sw_inv e (by simp)
  obtain ⟨e4, e⟩ := sw_inv e (by simp)
  obtain ⟨e5, e⟩ := sw_inv e (by simp)
  obtain ⟨e6, e⟩ := sw_inv e (by simp)
  unfold newS at e
  obtain ⟨e7, e⟩ := sw_inv e (by simp)
  cases e
  have e1 := nbeq e1
  rw [lenX_eq, lenX_eq] at e1
  have e2 := apartN_ok e2
  have e3 : ∀ b ∈ bs, K.NG ≤ b ∧ b < most := fun b hb => by
    obtain ⟨h1, h2⟩ := sw_and (allN_ok e3 b hb)
    rw [ble_dec, decide_eq_true_eq] at h1
    rw [blt_dec, decide_eq_true_eq] at h2
    exact ⟨h1, h2⟩
  rw [ble_dec, decide_eq_true_eq, lenX_eq] at e7
  have e7 : h.nx + K.lit.length ≤ most := e7
  have e6 := eqRL_eq _ _ e6
  rw [e6] at hxs
  have hls : ∀ (k : Nat) (c : CL), K.ls[k]? = some c → hget h (nthB bs 0 k) = c.raw := by
    intro k c hc
    have := eqBks_eq e4 (lbs_cells _) k (.cells c) (by rw [List.getElem?_map, hc]; rfl)
    rw [Nat.zero_add] at this
    rw [this, blk_flat (f2 c (List.mem_of_getElem? hc))]
  have hmu1 : ∀ i, i < K.NG → muOf K.NG bs h.nx i = i := fun i hi => by unfold muOf; rw [blt_dec, decide_eq_true hi, sw_true]
  have hmu2 : ∀ i, ¬ i < K.NG → muOf K.NG bs h.nx i = nthB bs (h.nx + i) (i - K.NG) := fun i hi => by unfold muOf; rw [blt_dec, decide_eq_false hi, sw_false]; rfl
  have hnx : K.hc.nx = K.NG + K.ls.length := hcOf_nx ..
  have hget0 : ∀ i, i < most → hget K.hc i = if i < K.NG then (if i = 0 then K.blk0 else .dead) else ((K.ls[i - K.NG]?).map CL.raw).getD .dead := fun i hi => hcOf_get p6 p7 hi
  have hblk0 : K.blk0 = .dead ∨ ∃ c, K.a = some c ∧ K.blk0 = c.raw := by
    unfold Spec.blk0
    cases ha : K.a with
    | none => exact .inl rfl
    | some c => exact .inr ⟨c, rfl, rfl⟩
  -- the small memory
  have S : Small K.hc := by
    refine ⟨by rw [hnx]; exact p7, fun i hi hm => ?_, fun i hi => ?_⟩
    · rw [hnx] at hi
      rw [hget0 i hm, if_neg (by omega), List.getElem?_eq_none (by omega)]; rfl
    · rw [hnx] at hi
      rw [hget0 i (by omega)]
      by_cases h1 : i < K.NG
      · rw [if_pos h1]
        by_cases h2 : i = 0
        · rw [if_pos h2]
          rcases hblk0 with h3 | ⟨c, _, h3⟩
          · exact .inl h3
          · exact .inr ⟨_, _, _, _, h3⟩
        · rw [if_neg h2]; exact .inl rfl
      · rw [if_neg h1, List.getElem?_eq_getElem (by omega)]
        exact .inr ⟨_, _, _, _, rfl⟩
  have L : Lies P.globals.size K.hc h (muOf K.NG bs h.nx) := by
    refine ⟨fun g hg => hmu1 g (by rw [H.ng]; exact hg), by rw [hnx, H.ng]; omega, fun i hi => ?_, fun i l e ro wh hi hb => ?_, fun i j hi hj hdi hdj he => ?_⟩
    · rw [hnx] at hi
      rw [hmu2 i (by omega), nthB_ge (by omega)]; omega
    · rw [hnx] at hi
      have him : i < most := by omega
      rw [hget0 i him] at hb
      by_cases h1 : i < K.NG
      · rw [if_pos h1] at hb
        by_cases h2 : i = 0
        · rw [if_pos h2] at hb
          rcases hblk0 with h3 | ⟨c, hc, h3⟩
          · rw [h3] at hb; cases hb
          · rw [hmu1 i h1]
            refine ⟨him, ?_⟩
            rw [h2, Spec.aOk_get hc (f1 c hc) e5]
            rw [h3] at hb
            cases hb
            rw [renL_flat (f1 c hc)]; rfl
        · rw [if_neg h2] at hb; cases hb
      · rw [if_neg h1, List.getElem?_eq_getElem (by omega)] at hb
        have hk : i - K.NG < bs.length := by omega
        rw [hmu2 i h1, nthB_lt hk]
        have h4 := hls (i - K.NG) _ (List.getElem?_eq_getElem (by omega))
        rw [nthB_lt hk] at h4
        refine ⟨(e3 _ (List.getElem_mem hk)).2, ?_⟩
        rw [h4]
        cases hb
        rw [renL_flat (f2 _ (List.getElem_mem (by omega)))]; rfl
    · rw [hnx] at hi hj
      by_cases h1 : i < K.NG <;> by_cases h2 : j < K.NG
      · rw [hmu1 i h1, hmu1 j h2] at he; exact he
      · rw [hmu1 i h1, hmu2 j h2, nthB_lt (by omega)] at he
        have := (e3 _ (List.getElem_mem (l := bs) (n := j - K.NG) (by omega))).1
        omega
      · rw [hmu1 j h2, hmu2 i h1, nthB_lt (by omega)] at he
        have := (e3 _ (List.getElem_mem (l := bs) (n := i - K.NG) (by omega))).1
        omega
      · rw [hmu2 i h1, hmu2 j h2, nthB_lt (by omega), nthB_lt (by omega)] at he
        have := (List.getElem_inj (h₀ := by omega) (h₁ := by omega) e2).1 he
        omega
  have hadd : (fun k => h.nx + k) = Nat.add h.nx := rfl
  rw [← hadd]
  refine carry_any (hc := K.hc) (hc' := hc') (μ := muOf K.NG bs h.nx) (ξ := K.xi) (argsc := K.args) S L (fun i hi hd => ?_) (fun k hk => ?_) (fun k hk => ?_) (fun j k hj hk he => ?_) (fun k c hc => ?_) (fun k c hc => lbOk_ok (lbsOk_all p2 c (List.mem_of_getElem? hc))) e7 H.run R hxs
  · rw [hnx] at hi
    have him : i < most := by omega
    rw [hget0 i him] at hd ⊢
    by_cases h1 : i < K.NG
    · rw [if_pos h1] at hd ⊢
      by_cases h2 : i = 0
      · rw [if_pos h2] at hd ⊢
        rcases hblk0 with h3 | ⟨c, hc, h3⟩
        · exact absurd h3 hd
        · rw [h3, h2, H.same c hc]
      · rw [if_neg h2] at hd; exact absurd rfl hd
    · rw [if_neg h1, List.getElem?_eq_getElem (by omega)]
      have := H.sames (i - K.NG) _ (List.getElem?_eq_getElem (by omega))
      have hi2 : K.NG + (i - K.NG) = i := by omega
      rw [hi2] at this
      rw [this]; rfl
  · show hc'.nx ≤ nthB K.xs K.big k
    rw [nthB_ge (by omega)]; exact H.big
  · show _ ≤ nthB K.xs K.big k ∧ nthB K.xs K.big k < most
    rw [nthB_lt (by omega), hnx]
    exact p5 _ (List.getElem_mem (by omega))
  · have he : nthB K.xs K.big j = nthB K.xs K.big k := he
    rw [nthB_lt (by omega), nthB_lt (by omega)] at he
    exact (List.getElem_inj (h₀ := by omega) (h₁ := by omega) p4).1 he
  · exact H.blks k c hc
/-- a run of the executor over the small memory shows it -/
theorem Spec.of_run {K : Spec} (hm : P.follows .mixedOrders = true) (hsz : P.funcs.size ≤ 1048576) {D : Nat → Bool} (hD : IdleOk P D) {S : Sums} (hS : SumsOk P σ S) (hf : K.f < 1048576) (henter : ∀ (as : Array Value) (w : World), (callFunc K.f as).run P w = .ok (.enter K.f as) w)
    (hng : K.NG = P.globals.size) (hpre : K.pre = true) {lf n : Nat} (run : onRH (callA P D S lf n K.f K.args K.hc) K.chk false = true) : ∃ hc', SpecOk P σ K hc' := by
  obtain ⟨v, h', e, hchk⟩ := onRH_inv run (by simp)
  obtain ⟨c1, hchk⟩ := sw_and (show sw (eqR K.xi K.v v) (sw (eqBks K.xi h' K.lit 0) (sw (K.aOk h') (sw (eqBks (fun k => Nat.add K.NG k) h' (K.ls.map LB.cells) 0) (Nat.ble h'.nx K.big) false) false) false) false = true from hchk)
  obtain ⟨c2, hchk⟩ := sw_and hchk
  obtain ⟨c3, hchk⟩ := sw_and hchk
  obtain ⟨c4, c5⟩ := sw_and hchk
  obtain ⟨p1, p⟩ := sw_and (show sw K.flat (sw (lbsOk K.lit) (sw (Nat.beq (lenX K.xs) (lenX K.lit)) (sw (apartN K.xs) (sw (allN (fun b => sw (Nat.ble (Nat.add K.NG (lenX K.ls)) b) (Nat.blt b most) false) K.xs) (sw (Nat.ble 1 K.NG) (Nat.ble (Nat.add K.NG (lenX K.ls)) most) false) false) false) false) false) false = true from hpre)
  obtain ⟨p2, p⟩ := sw_and p
  obtain ⟨f1, f2⟩ := Spec.flat_ok p1
  have hv := eqR_eq _ _ c1
  subst hv
  rw [ble_dec, decide_eq_true_eq] at c5
  refine ⟨h', henter, hng, hpre, fun c hc => Spec.aOk_get hc (f1 c hc) c3, fun k c hc => ?_, fun k c hc => ?_, c5, fun ρ w xs R hx => call_ok hm hsz hD hS hf e R hx⟩
  · have := eqBks_eq c4 (lbs_cells _) k (.cells c) (by rw [List.getElem?_map, hc]; rfl)
    rw [Nat.zero_add, blk_flat (f2 c (List.mem_of_getElem? hc))] at this
    exact this
  · have := eqBks_eq c2 p2 k c hc
    rw [Nat.zero_add] at this
    exact this
end
end Go.Proofs.YteahdpjeoeeemaaGreatDoor.Ax

namespace Go.Proofs.YteahdpjeoeeemaaGreatDoor.Ax
set_option linter.unusedVariables false
set_option linter.unusedSimpArgs false
set_option linter.unnecessarySimpa false

noncomputable section defs
def keyIn (s : List Nat) (l : List (AV × AV)) : Bool := listR false (fun e _ ih => sw (onStr e.1 (fun t => eqX s t) true) true ih) l
def apartK (l : List (AV × AV)) : Bool := listR true (fun e t ih => onStr e.1 (fun s => sw (keyIn s t) false ih) false) l
def rowsK (l : List (AV × AV)) : Bool := listR true (fun e _ ih => sw (onStr e.1 (fun _ => true) false) (sw (onAgg e.2 (fun l => Nat.beq (lenX l) 3) false) ih false) false) l
def partsK (ξ : Nat → Nat) (h : AH) (parts : List (List (AV × AV))) : List Nat → Bool :=
  listR (fun bs => onList bs (fun _ _ => false) true) (fun l _ ih bs => onList bs (fun b t => sw (onMapB (hget h b) (fun m => eqRK ξ l m) false) (ih t) false) false) parts
/-- what the memory behind the beginning must show -/
def tabChk (ξ : Nat → Nat) (parts : List (List (AV × AV))) (cells : List LB) (m sb : Nat) (bs : List Nat) (N : Nat) (r : Rg) (h : AH) : Bool :=
  sw (eqR (fun b => b) (.map m) (gt 1 r)) (sw (onSlice (gt 12 r) (fun b o n c e => sw (Nat.beq b sb) (sw (Nat.beq o 0) (sw (Nat.beq n (lenX parts)) (Nat.beq e 0) false) false) false) false) (sw (eqR (fun b => b) (.int 3 (Int.ofNat (lenX parts))) (gt 13 r))
    (sw (eqR (fun b => b) (.int 3 (Int.ofNat 0)) (gt 14 r)) (sw (onList r.d (fun _ _ => false) true) (sw (onMapB (hget h m) (fun l => onList l (fun _ _ => false) true) false) (sw (onCells (hget h sb) (fun l _ _ _ => eqRL (fun b => b) (bs.map AV.map) l) false)
      (sw (partsK ξ h parts bs) (sw (eqBks ξ h cells 1) (Nat.beq h.nx N) false) false) false) false) false) false) false) false) false
def tabPre (parts : List (List (AV × AV))) (cells : List LB) (xs : List Nat) (m sb : Nat) (bs : List Nat) (N big : Nat) : Bool :=
  sw (Nat.beq (lenX bs) (lenX parts)) (sw (Nat.blt (lenX parts) 1000) (sw (notB (inN m bs)) (sw (notB (Nat.beq m sb)) (sw (notB (inN sb bs)) (sw (apartN bs) (sw (Nat.blt m N) (sw (allN (fun b => Nat.blt b N) bs)
    (sw (Nat.blt (Nat.add (Nat.add N (lenX parts.flatten)) (lenX parts)) most) (sw (apartK parts.flatten) (sw (rowsK parts.flatten) (sw (Nat.beq (nthB xs big 0) m) (sw (allN (fun x => notB (orB (Nat.beq x m) (inN x bs))) (dropX 1 xs)) (sw (Nat.ble (Nat.add (Nat.add N (lenX parts.flatten)) (lenX parts)) big) (Nat.beq (lenX xs) (Nat.succ (lenX cells))) false) false) false) false) false) false) false) false) false) false) false) false) false) false
end defs

theorem notB_true {b : Bool} (h : notB b = true) : b = false := by cases b <;> first | rfl | cases h
theorem keyIn_false {s : List Nat} : ∀ {l : List (AV × AV)}, keyIn s l = false → ∀ e ∈ l, e.1 ≠ .str s
  | [], _, e, he => by cases he
  | x :: l, h, e, he => by
    have h : sw (onStr x.1 (fun t => eqX s t) true) true (keyIn s l) = false := h
    have h1 : onStr x.1 (fun t => eqX s t) true = false := by
      cases hx : onStr x.1 (fun t => eqX s t) true with
      | false => rfl
      | true => rw [hx] at h; cases h
    rw [h1, sw_false] at h
    rcases List.mem_cons.1 he with rfl | he
    · intro e1
      rw [e1] at h1
      have h1 : eqX s s = false := h1
      rw [eqX_iff] at h1; simp at h1
    · exact keyIn_false h e he
theorem apartK_ok : ∀ {l : List (AV × AV)}, apartK l = true → l.Pairwise fun a b => a.1 ≠ b.1
  | [], _ => List.Pairwise.nil
  | x :: l, h => by
    obtain ⟨s, hs, h⟩ := onStr_inv (show onStr x.1 (fun s => sw (keyIn s l) false (apartK l)) false = true from h) (by simp)
    cases hk : keyIn s l with
    | true => rw [hk] at h; cases h
    | false =>
      rw [hk, sw_false] at h
      refine List.pairwise_cons.2 ⟨fun e he => ?_, apartK_ok h⟩
      rw [hs]
      exact fun e1 => keyIn_false hk e he e1.symm
theorem rowsK_ok : ∀ {l : List (AV × AV)}, rowsK l = true → ∀ e ∈ l, ∃ s x y z, e = (.str s, .agg [x, y, z])
  | [], _, e, he => by cases he
  | x :: l, h, e, he => by
    obtain ⟨h1, h⟩ := sw_and (show sw (onStr x.1 (fun _ => true) false) (sw (onAgg x.2 (fun l => Nat.beq (lenX l) 3) false) (rowsK l) false) false = true from h)
    obtain ⟨h2, h3⟩ := sw_and h
    rcases List.mem_cons.1 he with rfl | he
    · obtain ⟨s, hs, _⟩ := onStr_inv h1 (by simp)
      obtain ⟨cs, hc, h4⟩ := onAgg_inv h2 (by simp)
      have h4 := nbeq h4
      rw [lenX_eq] at h4
      match cs, h4 with
      | [a, b, c], _ => exact ⟨s, a, b, c, by cases e; simp only at hs hc; rw [hs, hc]⟩
    · exact rowsK_ok h3 e he
theorem partsK_ok {ξ : Nat → Nat} {h : AH} : ∀ {parts : List (List (AV × AV))} {bs : List Nat}, partsK ξ h parts bs = true → (∀ l ∈ parts, ∀ e ∈ l, plainX e.1 = true) → ∀ (i b : Nat) (l : List (AV × AV)), bs[i]? = some b → parts[i]? = some l → hget h b = .map (renKV ξ l)
  | [], bs, _, _, i, b, l, _, hl => by simp at hl
  | x :: parts, [], h1, _, i, b, l, hb, _ => by simp at hb
  | x :: parts, c :: bs, h1, hp, i, b, l, hb, hl => by
    obtain ⟨h2, h3⟩ := sw_and (show sw (onMapB (hget h c) (fun m => eqRK ξ x m) false) (partsK ξ h parts bs) false = true from h1)
    cases i with
    | zero =>
      simp at hb hl
      subst hb hl
      obtain ⟨m, hm, h4⟩ := onMapB_inv h2 (by simp)
      rw [hm, eqRK_renKV h4 (hp x List.mem_cons_self)]
    | succ i => exact partsK_ok h3 (fun l hl => hp l (List.mem_cons_of_mem _ hl)) i b l (by simpa using hb) (by simpa using hl)
theorem renKV_flatten (ξ : Nat → Nat) (parts : List (List (AV × AV))) : (parts.map (renKV ξ)).flatten = renKV ξ parts.flatten := by
  unfold renKV
  rw [List.map_flatten]

section
variable {P : Program} {σ : Nat → ByteArray}
variable {f tmap trow : Nat} {zrow : List AV} {fn : Func} {A0 A1 A2 A3 A4 A9 A10 C c8 : Code} {b0 b2 : Nat} {ops6 ops7 : Array Oper} {l6 l7 : List Oper} {o5 : Oper}

theorem onXR_chk {x : XR} {F : Rg → AH → Bool} (h : onXR x (fun e r h => @AEx.casesOn (fun _ => Bool) e (F r h) (fun _ => false) false) false = true) : ∃ r h, x = .ok .normal r h ∧ F r h = true := by
  obtain ⟨e, r, m, hx, h⟩ := onXR_inv h (by simp)
  cases e with
  | normal => exact ⟨r, m, hx, h⟩
  | exit id => cases h
  | ret => cases h
theorem table_spec (hm : P.follows .mixedOrders = true) (T : TabCode P f tmap trow zrow fn A0 A1 A2 A3 A4 A9 A10 C c8 b0 b2 ops6 ops7 l6 l7 o5) {E : Env} {k : Nat} (hE : ∀ ρ, EnvOk P σ ρ E)
    {parts : List (List (AV × AV))} {cells : List LB} {xs : List Nat} {m sb : Nat} {bs : List Nat} {N big NG : Nat} (hng : NG = P.globals.size) (henter : ∀ (as : Array Value) (w : World), (callFunc f as).run P w = .ok (.enter f as) w)
    (hpre : Spec.pre ⟨f, NG, none, [], [], .map parts.flatten :: cells, .map 0, xs, big⟩ = true) (hpl : (rowsK parts.flatten) = true) (htp : tabPre parts cells xs m sb bs N big = true)
    (run : onXR ((cCode P 30 (.seq A0 (.seq A1 A2))).run E k rg0 (hcOf NG .dead [])) (fun e r h => @AEx.casesOn (fun _ => Bool) e (tabChk (nthB xs big) parts cells m sb bs N r h) (fun _ => false) false) false = true) :
    ∃ hc', SpecOk P σ ⟨f, NG, none, [], [], .map parts.flatten :: cells, .map 0, xs, big⟩ hc' := by
  obtain ⟨rP, hP, pre, hchk⟩ := onXR_chk run
  generalize hξ : nthB xs big = ξ at *
  unfold tabChk at hchk
  obtain ⟨k1, hchk⟩ := sw_and hchk
  obtain ⟨k2, hchk⟩ := sw_and hchk
  obtain ⟨k3, hchk⟩ := sw_and hchk
  obtain ⟨k4, hchk⟩ := sw_and hchk
  obtain ⟨k5, hchk⟩ := sw_and hchk
  obtain ⟨k6, hchk⟩ := sw_and hchk
  obtain ⟨k7, hchk⟩ := sw_and hchk
  obtain ⟨k8, hchk⟩ := sw_and hchk
  obtain ⟨k9, k10⟩ := sw_and hchk
  have k10 := nbeq k10
  unfold tabPre at htp
  obtain ⟨t1, htp⟩ := sw_and htp
  obtain ⟨t2, htp⟩ := sw_and htp
  obtain ⟨t3, htp⟩ := sw_and htp
  obtain ⟨t4, htp⟩ := sw_and htp
  obtain ⟨t5, htp⟩ := sw_and htp
  obtain ⟨t6, htp⟩ := sw_and htp
  obtain ⟨t7, htp⟩ := sw_and htp
  obtain ⟨t8, htp⟩ := sw_and htp
  obtain ⟨t9, htp⟩ := sw_and htp
  obtain ⟨t10, htp⟩ := sw_and htp
  obtain ⟨t11, htp⟩ := sw_and htp
  obtain ⟨t12, htp⟩ := sw_and htp
  obtain ⟨t13, htp⟩ := sw_and htp
  obtain ⟨t14, t15⟩ := sw_and htp
  have t1 := nbeq t1
  rw [lenX_eq, lenX_eq] at t1
  rw [blt_dec, decide_eq_true_eq, lenX_eq] at t2
  have t3 := notB_true t3
  have t4 := notB_true t4
  have t5 := notB_true t5
  rw [blt_dec, decide_eq_true_eq] at t7
  rw [blt_dec, decide_eq_true_eq, lenX_eq, lenX_eq] at t9
  have t9 : N + parts.flatten.length + parts.length < most := t9
  rw [ble_dec, decide_eq_true_eq, lenX_eq, lenX_eq] at t14
  have t14 : N + parts.flatten.length + parts.length ≤ big := t14
  have t12 := nbeq t12
  have t15 := nbeq t15
  rw [lenX_eq, lenX_eq] at t15
  have hmb : m ∉ bs := fun h => by rw [inN_iff.2 h] at t3; cases t3
  have hsbb : sb ∉ bs := fun h => by rw [inN_iff.2 h] at t5; cases t5
  have hmsb : m ≠ sb := fun h => by rw [h, beq_dec] at t4; simp at t4
  have hb8 : ∀ b ∈ bs, b < N := fun b hb => by have := allN_ok t8 b hb; rw [blt_dec, decide_eq_true_eq] at this; exact this
  have hrows := rowsK_ok hpl
  have hplain : ∀ l ∈ parts, ∀ e ∈ l, plainX e.1 = true := fun l hl e he => by
    obtain ⟨s, x, y, z, rfl⟩ := hrows e (List.mem_flatten.2 ⟨l, hl, he⟩)
    rfl
  have hlen' : (parts.map (renKV ξ)).length = parts.length := List.length_map ..
  have hflen : (parts.map (renKV ξ)).flatten.length = parts.flatten.length := by rw [renKV_flatten]; unfold renKV; rw [List.length_map]
  have TP : TabPre (parts.map (renKV ξ)) m sb bs rP hP := by
    refine ⟨eqR_eq _ _ k1, ?_, ?_, eqR_eq _ _ k4, ?_, ?_, ?_, ?_, by rw [hlen']; exact t1, by rw [hlen']; exact t2, hmb, hmsb, hsbb, apartN_ok t6, by rw [k10]; exact t7, fun b hb => by rw [k10]; exact hb8 b hb, by rw [k10, hlen', hflen]; exact t9, ?_, ?_⟩
    · obtain ⟨b, o, n, c, e, h1, h2⟩ := onSlice_inv k2 (by simp)
      obtain ⟨h3, h2⟩ := sw_and h2
      obtain ⟨h4, h2⟩ := sw_and h2
      obtain ⟨h5, h6⟩ := sw_and h2
      rw [h1, nbeq h3, nbeq h4, nbeq h5, nbeq h6, lenX_eq, hlen']
      exact ⟨c, rfl⟩
    · have := eqR_eq _ _ k3
      rw [this, lenX_eq, hlen']; rfl
    · cases hd : rP.d with
      | nil => rfl
      | cons _ _ => rw [hd] at k5; cases k5
    · obtain ⟨l, h1, h2⟩ := onMapB_inv k6 (by simp)
      cases l with
      | nil => exact h1
      | cons _ _ => cases h2
    · obtain ⟨l, e, ro, wh, h1, h2⟩ := onCells_inv k7 (by simp)
      refine ⟨e, ro, wh, ?_⟩
      rw [h1, eqRL_eq _ _ h2]
      congr 1
      have : ∀ bs : List Nat, renL (fun b => b) (bs.map AV.map) = bs.map AV.map := by
        intro bs
        induction bs with
        | nil => rfl
        | cons b bs ih => show AV.map b :: renL (fun b => b) (bs.map AV.map) = _; rw [ih]; rfl
      exact this bs
    · intro i b l hb hl
      rw [List.getElem?_map] at hl
      cases hl2 : parts[i]? with
      | none => rw [hl2] at hl; cases hl
      | some l2 =>
        rw [hl2] at hl
        cases hl
        exact partsK_ok k8 hplain i b l2 hb hl2
    · rw [renKV_flatten]
      unfold renKV
      rw [List.pairwise_map]
      exact apartK_ok t10
    · intro e he
      rw [renKV_flatten] at he
      obtain ⟨e', he', rfl⟩ := List.mem_map.1 he
      obtain ⟨s, x, y, z, rfl⟩ := hrows e' he'
      exact ⟨s, ren ξ x, ren ξ y, ren ξ z, rfl⟩
  let F := bs.foldl (fun h b => hput h b .dead) (hput hP m (.map (renKV ξ parts.flatten)))
  let hfin : AH := ⟨F.hp, N + parts.flatten.length + parts.length⟩
  have hmm : m < most := by omega
  have hF : ∀ i, i < most → hget hfin i = if i ∈ bs then .dead else if i = m then .map (renKV ξ parts.flatten) else hget hP i := by
    intro i hi
    show hget F i = _
    rw [show hget F i = _ from dead_all bs _ (fun b hb => by have := hb8 b hb; omega) i hi, hget_hput hP m i _ hmm hi]
  obtain ⟨p1, p⟩ := sw_and (show sw (Spec.flat ⟨f, NG, none, [], [], .map parts.flatten :: cells, .map 0, xs, big⟩) (sw (lbsOk (.map parts.flatten :: cells)) (sw (Nat.beq (lenX xs) (lenX (LB.map parts.flatten :: cells))) (sw (apartN xs) (sw (allN (fun b => sw (Nat.ble (Nat.add NG (lenX ([] : List CL))) b) (Nat.blt b most) false) xs) (sw (Nat.ble 1 NG) (Nat.ble (Nat.add NG (lenX ([] : List CL))) most) false) false) false) false) false) false = true from hpre)
  obtain ⟨p2, p⟩ := sw_and p
  obtain ⟨p3, p⟩ := sw_and p
  obtain ⟨p4, p⟩ := sw_and p
  obtain ⟨p5, p6⟩ := sw_and p
  obtain ⟨p7, p8⟩ := sw_and (show sw (lbOk (.map parts.flatten)) (lbsOk cells) false = true from p2)
  have hren : ren ξ (.map 0) = .map m := by
    show AV.map (ξ 0) = _
    rw [← hξ, t12]
  refine ⟨hfin, henter, hng, hpre, fun c hc => (by cases hc), fun k c hc => by simp at hc, fun k c hc => ?_, t14, fun ρ w zs R hz => ?_⟩
  · show hget hfin (nthB xs big k) = c.blk (nthB xs big)
    rw [hξ]
    cases k with
    | zero =>
      simp at hc
      subst hc
      have : ξ 0 = m := by rw [← hξ]; exact t12
      rw [this, hF m hmm, if_neg hmb, if_pos rfl]; rfl
    | succ k =>
      simp at hc
      have hk : k < cells.length := (List.getElem?_eq_some_iff.1 hc).1
      have hkx : k + 1 < xs.length := by rw [t15]; omega
      have hxk : ξ (k + 1) = xs[k + 1] := by rw [← hξ]; exact nthB_lt hkx
      have hmem : xs[k + 1] ∈ dropX 1 xs := by
        rw [dropX_eq]
        exact List.mem_iff_getElem?.2 ⟨k, by rw [List.getElem?_drop, Nat.add_comm 1 k, List.getElem?_eq_getElem hkx]⟩
      have h1 := notB_true (allN_ok t13 _ hmem)
      have hlt : xs[k + 1] < most := by
        have := (sw_and (allN_ok p5 _ (List.getElem_mem hkx))).2
        rw [blt_dec, decide_eq_true_eq] at this; exact this
      have hn1 : xs[k + 1] ≠ m := fun e => by rw [e, beq_dec] at h1; simp [orB, sw_true] at h1
      have hn2 : xs[k + 1] ∉ bs := fun e => by
        rw [inN_iff.2 e] at h1
        have : orB (Nat.beq xs[k + 1] m) true = true := by cases Nat.beq xs[k + 1] m <;> rfl
        rw [this] at h1; cases h1
      have := eqBks_eq k9 p8 k c hc
      rw [show 1 + k = k + 1 by omega, hxk] at this
      rw [hxk, hF _ hlt, if_neg hn2, if_neg hn1]
      exact this
  · have hzs : zs = [] := by
      have := conL_length hz
      simpa using this
    subst hzs
    show Calls P f #[] w (Back P σ ρ (hcOf NG .dead []) w (ren (nthB xs big) (.map 0)) hfin)
    rw [hξ, hren]
    refine table_ok hm T hE pre TP (hfin := hfin) ?_ (fun i hi => .inr ?_) R
    · show N + parts.flatten.length + parts.length = _
      rw [k10, hlen', hflen]
    · rw [hF i hi, renKV_flatten]
      by_cases e : i = m
      · rw [if_pos e, if_neg (e ▸ hmb), if_pos e]
      · rw [if_neg e]
        by_cases e2 : i ∈ bs
        · rw [if_pos e2, if_neg e]
        · rw [if_neg e2, if_neg e]
end
end Go.Proofs.YteahdpjeoeeemaaGreatDoor.Ax

namespace Go.Proofs.YteahdpjeoeeemaaGreatDoor.Ax
set_option linter.unusedVariables false
set_option linter.unusedSimpArgs false
set_option linter.unnecessarySimpa false

noncomputable section defs
def addS (K : Spec) (ih : Option (List AV → AH → RH)) : Option (List AV → AH → RH) := @Option.casesOn (List AV → AH → RH) (fun _ => Option (List AV → AH → RH)) ih (some K.run) (fun s => some (orS K.run s))
def sumsOf (l : List Spec) : Sums := ⟨fun f => listR none (fun K _ ih => sw (Nat.beq f K.f) (addS K ih) ih) l⟩
end defs
section
variable {P : Program} {σ : Nat → ByteArray}
theorem enter_of {f : Nat} (h : ((P.funcs[f]?).map fun fn => fn.body.isSome && fn.name != "runtime.NumGoroutine") = some true) (as : Array Value) (w : World) : (callFunc f as).run P w = .ok (.enter f as) w := by
  cases hf : P.funcs[f]? with
  | none => rw [hf] at h; cases h
  | some fn =>
    rw [hf] at h
    simp only [Option.map_some, Option.some.injEq, Bool.and_eq_true, bne_iff_ne, ne_eq] at h
    obtain ⟨h1, h2⟩ := h
    cases hb : fn.body with
    | none => rw [hb] at h1; cases h1
    | some c => simp [callFunc, hf, hb, h2]
theorem sumsOf_ok : ∀ {l : List Spec}, (∀ K ∈ l, K.f < 1048576 ∧ ∃ hc', SpecOk P σ K hc') → SumsOk P σ (sumsOf l)
  | [], _ => ⟨fun f s h => (by cases h), fun f s h => (by cases h)⟩
  | K :: l, hl => by
    have ih := sumsOf_ok (l := l) fun K' h => hl K' (List.mem_cons_of_mem _ h)
    obtain ⟨hf, hc', H⟩ := hl K List.mem_cons_self
    refine ⟨fun f s h => ?_, fun f s h args hh v h' e => ?_⟩
    · have h : sw (Nat.beq f K.f) (addS K ((sumsOf l).run f)) ((sumsOf l).run f) = some s := h
      rw [beq_dec] at h
      by_cases e : f = K.f
      · rw [e]; exact hf
      · rw [decide_eq_false e, sw_false] at h
        exact ih.low f s h
    · have h : sw (Nat.beq f K.f) (addS K ((sumsOf l).run f)) ((sumsOf l).run f) = some s := h
      rw [beq_dec] at h
      by_cases ef : f = K.f
      · rw [decide_eq_true ef, sw_true] at h
        have one : ∀ {args : List AV} {hh h' : AH} {v : AV}, K.run args hh = .ok v h' → (∀ (as : Array Value) (w : World), (callFunc f as).run P w = .ok (.enter f as) w) ∧
            ∀ (ρ : Rho) (w : World) (xs : List Value), Rel P.globals.size ρ σ hh w → conL ρ σ args = some xs → Calls P f xs.toArray w (Back P σ ρ hh w v h') := by
          intro args hh h' v e
          rw [ef]
          exact ⟨H.enter, fun ρ w xs R hx => Spec.sum H e R hx⟩
        cases hs : (sumsOf l).run f with
        | none =>
          rw [hs] at h
          cases h
          exact one e
        | some t =>
          rw [hs] at h
          cases h
          have e : orS K.run t args hh = .ok v h' := e
          unfold orS at e
          cases hk : K.run args hh with
          | no => rw [hk] at e; exact ih.ok f t hs args hh v h' e
          | ok v2 h2 => rw [hk] at e; cases e; exact one hk
      · rw [decide_eq_false ef, sw_false] at h
        exact ih.ok f s h args hh v h' e
theorem sums_none : SumsOk P σ ⟨fun _ => none⟩ := ⟨fun f s h => (by cases h), fun f s h => (by cases h)⟩
theorem idle_none : IdleOk P (fun _ => false) := fun f h => by cases h
end
end Go.Proofs.YteahdpjeoeeemaaGreatDoor.Ax

namespace Go.Proofs.YteahdpjeoeeemaaGreatDoor.Ax
set_option linter.unusedVariables false
set_option linter.unusedSimpArgs false
set_option linter.unnecessarySimpa false

noncomputable section defs
def lawChk (asc : CL) (v : AV) (h : AH) : Bool := sw (eqR (fun b => b) (.bool true) v) (eqBk (fun b => b) (.cells asc) (hget h 0)) false
/-- where the globals lie at a law's start -/
def lawRho (NG n : Nat) (fz : Nat × Nat) : Rho := fun i => if i < NG then some ⟨i, 0, n, some { (default : Loop) with fn := fz.1, defers := fz.2 }⟩ else none
end defs
section
variable {P : Program} {σ : Nat → ByteArray}
theorem law_rel {asc : CL} {W : World} {c : Array Value} {fz : Nat × Nat} (h1 : 1 ≤ P.globals.size) (hm : P.globals.size ≤ most) (hW : W.heap[0]? = some (.cells c asc.e fz)) (hc : conL (lawRho P.globals.size asc.l.length fz) σ asc.l = some c.toList) (hcell : asc.l.all isCell = true)
    (hro : asc.ro = true) (hwh : asc.wh = true) : Rel P.globals.size (lawRho P.globals.size asc.l.length fz) σ (hcOf P.globals.size asc.raw []) W := by
  have hget0 : ∀ i, i < most → hget (hcOf P.globals.size asc.raw []) i = if i = 0 then asc.raw else .dead := by
    intro i hi
    rw [hcOf_get h1 (by simpa using hm) hi]
    by_cases e : i < P.globals.size
    · rw [if_pos e]
    · rw [if_neg e, if_neg (by omega)]; rfl
  have hlive : ∀ i, Live (hcOf P.globals.size asc.raw []) i → i = 0 := fun i hl => by
    by_cases e : i = 0
    · exact e
    · exact absurd (by rw [hget0 i hl.1, if_neg e]) hl.2
  have hnx : (hcOf P.globals.size asc.raw []).nx = P.globals.size := by rw [hcOf_nx]; rfl
  refine ⟨by rw [hnx]; exact hm, fun i p hp => ?_, fun i hi hmi => ?_, fun g hg => ⟨_, by unfold lawRho; rw [if_pos hg], rfl, rfl⟩, fun i hl => ?_, fun i j p q hi hj _ _ _ => (hlive i hi).trans (hlive j hj).symm⟩
  · rw [hnx]
    unfold lawRho at hp
    by_cases e : i < P.globals.size
    · exact e
    · rw [if_neg e] at hp; cases hp
  · rw [hnx] at hi
    rw [hget0 i hmi, if_neg (by omega)]
  · have hi := hlive i hl
    subst hi
    have hlt : 0 < W.heap.size := (Array.getElem?_eq_some_iff.1 hW).1
    refine ⟨_, by unfold lawRho; rw [if_pos (by omega)], hlt, ?_⟩
    rw [hget0 0 hl.1, if_pos rfl]
    show BRel _ σ _ W.heap[0]? (.cells asc.l asc.e asc.ro asc.wh)
    have hlen := conL_length hc
    refine ⟨c, fz, hW, ⟨by simpa using hlen, by simp, fun j v hj => ?_, fun h => (by rw [hro] at h; cases h), fun _ => ⟨rfl, rfl⟩, fun _ _ => ⟨_, rfl, rfl⟩⟩⟩
    obtain ⟨x, hx, hcx⟩ := conL_get hc hj
    refine ⟨List.all_eq_true.1 hcell v (List.mem_of_getElem? hj), x, hcx, ?_⟩
    rw [Nat.zero_add, ← Array.getElem?_toList]; exact hx
theorem law_ok (hm : P.follows .mixedOrders = true) (hsz : P.funcs.size ≤ 1048576) {D : Nat → Bool} (hD : IdleOk P D) {S : Sums} (hS : SumsOk P σ S) {lf n f : Nat} (hf : f < 1048576) {args : List AV} {asc : CL} (h1 : 1 ≤ P.globals.size) (hgm : P.globals.size ≤ most)
    (hcell : asc.l.all isCell = true) (hflat : flatL asc.l = true) (hro : asc.ro = true) (hwh : asc.wh = true) (run : onRH (callA P D S lf n f args (hcOf P.globals.size asc.raw [])) (lawChk asc) false = true)
    {W : World} {c : Array Value} {fz : Nat × Nat} {xs : List Value} (hW : W.heap[0]? = some (.cells c asc.e fz)) (hc : ∀ ρ, conL ρ σ asc.l = some c.toList) (hxs : ∀ ρ, conL ρ σ args = some xs) :
    Calls P f xs.toArray W (fun e W' => e = .returned (.bool true) ∧ W.grownBy W' none) := by
  obtain ⟨v, h', e, hchk⟩ := onRH_inv run (by simp)
  obtain ⟨c1, c2⟩ := sw_and (show sw (eqR (fun b => b) (.bool true) v) (eqBk (fun b => b) (.cells asc) (hget h' 0)) false = true from hchk)
  have hv : v = .bool true := eqR_eq _ _ c1
  have hb := eqBk_eq (c := .cells asc) c2 rfl
  rw [blk_flat hflat] at hb
  subst hv
  have R := law_rel h1 hgm hW (hc _) hcell hro hwh
  refine Calls.mono (call_ok hm hsz hD hS hf e R (hxs _)) fun en W' hB => ?_
  obtain ⟨x, ρ', rfl, X, hx⟩ := hB
  have hx : x = .bool true := (Option.some.inj hx).symm
  subst hx
  refine ⟨rfl, X.fr.os, X.fr.tape, X.fr.output, X.fr.size, fun i hi _ => ?_⟩
  by_cases e0 : i = 0
  · subst e0
    have hl' : Live h' 0 := ⟨by unfold most; omega, by rw [hb]; simp [CL.raw]⟩
    obtain ⟨p, hp, hlt, hB⟩ := X.rel.live 0 hl'
    have hnx : (hcOf P.globals.size asc.raw []).nx = P.globals.size := by rw [hcOf_nx]; rfl
    rw [X.fr.old 0 (by rw [hnx]; omega)] at hp
    unfold lawRho at hp
    rw [if_pos (by omega)] at hp
    cases hp
    rw [hb] at hB
    obtain ⟨c', fz', ho, H⟩ := hB
    obtain ⟨r, hr, hfz⟩ := H.fixd hro hwh
    cases hr
    have ho : W'.heap[0]? = some (.cells c' asc.e fz') := ho
    rw [ho, hW]
    have hcc : c' = c := by
      have hc0 := hc ρ'
      have hlen := conL_length hc0
      have hsz' : c'.size = asc.l.length := H.size
      apply Array.ext_getElem?
      intro j
      by_cases hj : j < asc.l.length
      · obtain ⟨_, x, hx, hcx⟩ := H.cell j _ (List.getElem?_eq_getElem hj)
        obtain ⟨y, hy, hcy⟩ := conL_get hc0 (List.getElem?_eq_getElem hj)
        rw [hx] at hcy
        rw [Nat.zero_add] at hcx
        rw [hcx, Option.some.inj hcy, ← Array.getElem?_toList, hy]
      · rw [Array.getElem?_eq_none (by omega), Array.getElem?_eq_none (by rw [← Array.length_toList]; omega)]
    rw [hcc, hfz]
  · refine X.fr.mem i hi fun k q hk hq he => ?_
    have hk0 : k = 0 := by
      by_cases e : k = 0
      · exact e
      · refine absurd ?_ hk.2
        rw [hcOf_get h1 (by simpa using hgm) hk.1]
        by_cases e2 : k < P.globals.size
        · rw [if_pos e2, if_neg e]
        · rw [if_neg e2]; rfl
    subst hk0
    unfold lawRho at hq
    rw [if_pos (by omega)] at hq
    cases hq
    exact e0 he.symm
end
end Go.Proofs.YteahdpjeoeeemaaGreatDoor.Ax

/- A part of an executor of the model over an abstract memory, with the proof that what it says is what the model does: Memory as a function: what a region whose order is drawn goes through. Regions whose order is drawn: what the run in the text's order tells of each operation. Regions whose order is drawn: whatever the order, the same comes out. Regions whose order is drawn: one operation more; the whole. Regions whose order is drawn: the whole. -/
import Derived.Test.YteahdpjeoeeemaaGreatDoorAx5
namespace Go.Proofs.YteahdpjeoeeemaaGreatDoor.Ax
set_option linter.unusedVariables false
set_option linter.unusedSimpArgs false
set_option linter.unnecessarySimpa false

structure RelF (NG : Nat) (ρ : Rho) (σ : Nat → ByteArray) (g : Nat → Blk) (nx : Nat) (w : World) : Prop where
  nxle : nx ≤ most
  dom : ∀ i p, ρ i = some p → i < nx
  dead : ∀ i, nx ≤ i → i < most → g i = .dead
  glob : ∀ k, k < NG → ∃ p, ρ k = some p ∧ p.blk = k ∧ p.base = 0
  live : ∀ i, i < most → g i ≠ .dead → ∃ p, ρ i = some p ∧ p.blk < w.heap.size ∧ BRel ρ σ p w.heap[p.blk]? (g i)
  inj : ∀ i j p q, i < most → j < most → g i ≠ .dead → g j ≠ .dead → ρ i = some p → ρ j = some q → p.blk = q.blk → i = j
structure FrF (ρ0 : Rho) (h0 : AH) (w0 : World) (ρ : Rho) (g : Nat → Blk) (nx : Nat) (w : World) : Prop where
  os : w.os = w0.os
  tape : w.tape = w0.tape
  output : w.output = w0.output
  size : w0.heap.size ≤ w.heap.size
  nxge : h0.nx ≤ nx
  old : ∀ i, i < h0.nx → ρ i = ρ0 i
  dead : ∀ i, i < h0.nx → hget h0 i = .dead → g i = .dead
  mem : ∀ c, c < w0.heap.size → (∀ i p, Live h0 i → ρ0 i = some p → p.blk ≠ c) → w.heap[c]? = w0.heap[c]?
  new : ∀ i p, i < most → g i ≠ .dead → ρ i = some p → w0.heap.size ≤ p.blk ∨ ∃ j q, Live h0 j ∧ ρ0 j = some q ∧ q.blk = p.blk

section
variable {NG : Nat} {ρ ρ' ρ0 : Rho} {σ : Nat → ByteArray} {g : Nat → Blk} {nx : Nat} {w w' w0 : World} {h h' h0 : AH}

theorem RelF.of (R : Rel NG ρ σ h w) {nx : Nat} (h1 : h.nx ≤ nx) (h2 : nx ≤ most) : RelF NG ρ σ (hget h) nx w :=
  ⟨h2, fun i p hp => Nat.lt_of_lt_of_le (R.dom i p hp) h1, fun i hi hm => R.dead i (Nat.le_trans h1 hi) hm, R.glob, fun i hi hl => R.live i ⟨hi, hl⟩, fun i j p q hi hj h1 h2 => R.inj i j p q ⟨hi, h1⟩ ⟨hj, h2⟩⟩
def Sub (h : AH) (g : Nat → Blk) : Prop := ∀ i, i < most → hget h i ≠ .dead → hget h i = g i
theorem RelF.sub (R : RelF NG ρ σ g nx w) (hs : Sub h g) (hn : h.nx = nx) (hd : ∀ i, nx ≤ i → i < most → hget h i = .dead) : Rel NG ρ σ h w := by
  refine ⟨by rw [hn]; exact R.nxle, fun i p hp => by rw [hn]; exact R.dom i p hp, fun i hi hm => hd i (by omega) hm, R.glob, ?_, ?_⟩
  · intro i hl
    have he := hs i hl.1 hl.2
    obtain ⟨p, h1, h2, h3⟩ := R.live i hl.1 (by rw [← he]; exact hl.2)
    exact ⟨p, h1, h2, by rw [he]; exact h3⟩
  · intro i j p q hi hj
    exact R.inj i j p q hi.1 hj.1 (by rw [← hs i hi.1 hi.2]; exact hi.2) (by rw [← hs j hj.1 hj.2]; exact hj.2)
theorem FrF.sub (F : FrF ρ0 h0 w0 ρ g nx w) (hs : Sub h g) (hn : h.nx = nx) (hm : h0.nx ≤ most) : Fr ρ0 h0 w0 ρ h w := by
  refine ⟨F.os, F.tape, F.output, F.size, by rw [hn]; exact F.nxge, F.old, ?_, F.mem, ?_⟩
  · intro i hi hd
    have hg := F.dead i hi hd
    cases hh : hget h i with
    | dead => rfl
    | _ =>
      have := hs i (by omega) (by rw [hh]; simp)
      rw [hh, hg] at this
      cases this
  · intro i p hl hp
    exact F.new i p hl.1 (by rw [← hs i hl.1 hl.2]; exact hl.2) hp
theorem FrF.le (R : Rel NG ρ0 σ h0 w0) (F : FrF ρ0 h0 w0 ρ g nx w) : ρ0.le ρ := fun i p hp => by rw [F.old i (R.dom i p hp)]; exact hp
theorem FrF.start (hn : h0.nx ≤ nx) (hw : w.heap = w0.heap) (ho : w.os = w0.os) (ht : w.tape = w0.tape) (hout : w.output = w0.output) : FrF ρ0 h0 w0 ρ0 (hget h0) nx w :=
  ⟨ho, ht, hout, by rw [hw]; exact Nat.le_refl _, hn, fun _ _ => rfl, fun _ _ h => h, fun c _ _ => by rw [hw], fun i p hi hl hp => .inr ⟨i, p, ⟨hi, hl⟩, hp, rfl⟩⟩
theorem RelF.world (R : RelF NG ρ σ g nx w) (hw : w'.heap = w.heap) : RelF NG ρ σ g nx w' :=
  ⟨R.nxle, R.dom, R.dead, R.glob, fun i h1 h2 => by rw [hw]; exact R.live i h1 h2, R.inj⟩

/-- a new block under a number that was kept for it -/
theorem RelF.alloc (R : RelF NG ρ σ g nx w) {id : Nat} (hid : id < nx) (hnone : ρ id = none) {obj : Obj} {b : Blk} {p : Place} (hp : p.blk = w.heap.size) (hb : BRel (ρ.put id p) σ p (some obj) b) (hw : w'.heap = w.heap.push obj) :
    RelF NG (ρ.put id p) σ (fun i => if i = id then b else g i) nx w' := by
  have hle : ρ.le (ρ.put id p) := Rho.le_put hnone
  have hput : ∀ i, i ≠ id → (ρ.put id p) i = ρ i := fun i hi => by unfold Rho.put; rw [if_neg hi]
  have hold : ∀ k, k < w.heap.size → w'.heap[k]? = w.heap[k]? := fun k hk => by rw [hw, Array.getElem?_push, if_neg (by omega)]
  have hsz : w'.heap.size = w.heap.size + 1 := by rw [hw]; simp
  have hnew : w'.heap[p.blk]? = some obj := by rw [hp, hw, Array.getElem?_push, if_pos rfl]
  refine ⟨R.nxle, ?_, ?_, ?_, ?_, ?_⟩
  · intro i q hq
    by_cases hi : i = id
    · rw [hi]; exact hid
    · rw [hput i hi] at hq; exact R.dom i q hq
  · intro i hi hm
    rw [if_neg (by omega)]; exact R.dead i hi hm
  · intro k hk
    obtain ⟨q, hq, h1⟩ := R.glob k hk
    exact ⟨q, hle k q hq, h1⟩
  · intro i hm hl
    by_cases hi : i = id
    · subst hi
      refine ⟨p, Rho.put_same .., by omega, ?_⟩
      rw [hnew, if_pos rfl]; exact hb
    · rw [if_neg hi] at hl ⊢
      obtain ⟨q, hq, hlt, hB⟩ := R.live i hm hl
      exact ⟨q, hle i q hq, by omega, by rw [hold _ hlt]; exact hB.mono hle⟩
  · intro i j q r hmi hmj hi hj hq hr he
    by_cases h1 : i = id
    · by_cases h2 : j = id
      · rw [h1, h2]
      · rw [if_neg h2] at hj
        rw [h1, Rho.put_same] at hq; cases hq
        rw [hput j h2] at hr
        obtain ⟨r', hr', hlt, _⟩ := R.live j hmj hj
        rw [hr] at hr'; cases hr'
        omega
    · rw [if_neg h1] at hi
      by_cases h2 : j = id
      · rw [h2, Rho.put_same] at hr; cases hr
        rw [hput i h1] at hq
        obtain ⟨q', hq', hlt, _⟩ := R.live i hmi hi
        rw [hq] at hq'; cases hq'
        omega
      · rw [if_neg h2] at hj
        rw [hput i h1] at hq; rw [hput j h2] at hr
        exact R.inj i j q r hmi hmj hi hj hq hr he
theorem FrF.alloc (F : FrF ρ0 h0 w0 ρ g nx w) {id : Nat} (hid : h0.nx ≤ id) {obj : Obj} {b : Blk} {p : Place} (hp : p.blk = w.heap.size) (hw : w'.heap = w.heap.push obj) (ho : w'.os = w.os) (ht : w'.tape = w.tape) (hout : w'.output = w.output) :
    FrF ρ0 h0 w0 (ρ.put id p) (fun i => if i = id then b else g i) nx w' := by
  have hput : ∀ i, i ≠ id → (ρ.put id p) i = ρ i := fun i hi => by unfold Rho.put; rw [if_neg hi]
  have hsz : w'.heap.size = w.heap.size + 1 := by rw [hw]; simp
  have hs := F.size
  refine ⟨ho.trans F.os, ht.trans F.tape, hout.trans F.output, by omega, F.nxge, fun i hi => by rw [hput i (by omega)]; exact F.old i hi, fun i hi hd => by rw [if_neg (by omega)]; exact F.dead i hi hd, ?_, ?_⟩
  · intro c hc hn
    rw [hw, Array.getElem?_push, if_neg (by omega)]
    exact F.mem c hc hn
  · intro i q hm hl hq
    by_cases hi : i = id
    · rw [hi, Rho.put_same] at hq; cases hq; exact .inl (by omega)
    · rw [if_neg hi] at hl
      rw [hput i hi] at hq
      exact F.new i q hm hl hq

open Classical in
/-- a loud operation on a part of the memory; T: the numbers of the blocks left beside -/
theorem RelF.over (R : RelF NG ρ σ g nx w) (hs : Sub h g) (hn : h.nx = nx) (E : Ext NG σ ρ h w ρ' h' w') (T : Nat → Prop) (hT : ∀ i, T i → i < nx ∧ hget h i = .dead) :
    RelF NG ρ' σ (fun i => if T i then g i else hget h' i) h'.nx w' := by
  have hle : ρ.le ρ' := fun i p hp => by
    rw [E.fr.old i (by rw [hn]; exact R.dom i p hp)]; exact hp
  have hgl : ∀ i, Live h i → g i ≠ .dead := fun i hi => by rw [← hs i hi.1 hi.2]; exact hi.2
  have hnx : nx ≤ h'.nx := by rw [← hn]; exact E.fr.nx
  -- a block left beside lies where none of the part's lies
  have hbeside : ∀ i p, i < most → T i → g i ≠ .dead → ρ i = some p → ∀ j q, Live h j → ρ j = some q → q.blk ≠ p.blk := by
    intro i p hm hi hg hp j q hj hq he
    have := R.inj j i q p hj.1 hm (hgl j hj) hg hq hp he
    subst this
    exact hj.2 (hT _ hi).2
  refine ⟨E.rel.nx, E.rel.dom, ?_, E.rel.glob, ?_, ?_⟩
  · intro i hi hm
    rw [if_neg (fun ht => by have := (hT i ht).1; omega)]
    exact E.rel.dead i hi hm
  · intro i hm hl
    by_cases ht : T i
    · rw [if_pos ht] at hl ⊢
      obtain ⟨p, hp, hlt, hB⟩ := R.live i hm hl
      have hsz := E.fr.size
      refine ⟨p, hle i p hp, by omega, ?_⟩
      rw [E.fr.mem p.blk hlt (hbeside i p hm ht hl hp)]
      exact hB.mono hle
    · rw [if_neg ht] at hl ⊢
      exact E.rel.live i ⟨hm, hl⟩
  · have mixed : ∀ i j p q, i < most → j < most → T i → ¬ T j → g i ≠ .dead → hget h' j ≠ .dead → ρ' i = some p → ρ' j = some q → p.blk = q.blk → False := by
      intro i j p q hmi hmj hti htj hi hj hp hq he
      obtain ⟨p', hp', hlt, _⟩ := R.live i hmi hi
      have := hle i p' hp'
      rw [hp] at this; cases this
      rcases E.fr.new j q ⟨hmj, hj⟩ hq with h1 | ⟨k, r, hk, hr, he2⟩
      · omega
      · exact hbeside i p hmi hti hi hp' k r hk hr (by omega)
    intro i j p q hmi hmj hi hj hp hq he
    by_cases hti : T i <;> by_cases htj : T j
    · rw [if_pos hti] at hi; rw [if_pos htj] at hj
      obtain ⟨p', hp', _, _⟩ := R.live i hmi hi
      obtain ⟨q', hq', _, _⟩ := R.live j hmj hj
      have e1 := hle i p' hp'; rw [hp] at e1; cases e1
      have e2 := hle j q' hq'; rw [hq] at e2; cases e2
      exact R.inj i j p q hmi hmj hi hj hp' hq' he
    · rw [if_pos hti] at hi; rw [if_neg htj] at hj
      exact (mixed i j p q hmi hmj hti htj hi hj hp hq he).elim
    · rw [if_neg hti] at hi; rw [if_pos htj] at hj
      exact (mixed j i q p hmj hmi htj hti hj hi hq hp he.symm).elim
    · rw [if_neg hti] at hi; rw [if_neg htj] at hj
      exact E.rel.inj i j p q ⟨hmi, hi⟩ ⟨hmj, hj⟩ hp hq he
open Classical in
theorem FrF.over (R : RelF NG ρ σ g nx w) (F : FrF ρ0 h0 w0 ρ g nx w) (hs : Sub h g) (hn : h.nx = nx) (E : Ext NG σ ρ h w ρ' h' w') (T : Nat → Prop) (hT : ∀ i, T i → i < nx ∧ hget h i = .dead) (hm : nx ≤ most) :
    FrF ρ0 h0 w0 ρ' (fun i => if T i then g i else hget h' i) h'.nx w' := by
  have hgl : ∀ i, Live h i → g i ≠ .dead := fun i hi => by rw [← hs i hi.1 hi.2]; exact hi.2
  have hnx : nx ≤ h'.nx := by rw [← hn]; exact E.fr.nx
  have hF := F.nxge
  refine ⟨E.fr.os.trans F.os, E.fr.tape.trans F.tape, E.fr.output.trans F.output, Nat.le_trans F.size E.fr.size, by omega, ?_, ?_, ?_, ?_⟩
  · intro i hi
    rw [E.fr.old i (by omega)]; exact F.old i hi
  · intro i hi hd
    have hg := F.dead i hi hd
    by_cases ht : T i
    · rw [if_pos ht]; exact hg
    · rw [if_neg ht]
      refine E.fr.dead i (by omega) ?_
      cases hh : hget h i with
      | dead => rfl
      | _ =>
        have := hs i (by omega) (by rw [hh]; simp)
        rw [hh, hg] at this; cases this
  · intro c hc hno
    rw [← F.mem c hc hno]
    refine E.fr.mem c (Nat.lt_of_lt_of_le hc F.size) fun i p hl hp e => ?_
    rcases F.new i p hl.1 (hgl i hl) hp with h1 | ⟨j, q, hj, hq, he⟩
    · omega
    · exact hno j q hj hq (he.trans e)
  · intro i p hmi hl hp
    by_cases ht : T i
    · rw [if_pos ht] at hl
      rw [E.fr.old i (by rw [hn]; exact (hT i ht).1)] at hp
      exact F.new i p hmi hl hp
    · rw [if_neg ht] at hl
      rcases E.fr.new i p ⟨hmi, hl⟩ hp with h1 | ⟨j, q, hj, hq, he⟩
      · exact .inl (Nat.le_trans F.size h1)
      · rcases F.new j q hj.1 (hgl j hj) hq with h2 | ⟨k, r, hk, hr, he2⟩
        · exact .inl (by omega)
        · exact .inr ⟨k, r, hk, hr, he2.trans he⟩

/-! memory with what waits -/
theorem withPool_get {m : Nat} {i : Nat} (hi : i < most) : ∀ {pool : List PE}, (∀ e ∈ pool, e.id < most) →
    (∃ e ∈ pool, bit m e.op = true ∧ e.id = i ∧ hget (withPool m pool h) i = e.blk) ∨ ((∀ e ∈ pool, bit m e.op = true → e.id ≠ i) ∧ hget (withPool m pool h) i = hget h i)
  | [], _ => .inr ⟨by simp, rfl⟩
  | e :: pool, hp => by
    have ih := withPool_get (m := m) hi (pool := pool) (fun e' he' => hp e' (List.mem_cons_of_mem _ he'))
    show (∃ e' ∈ e :: pool, bit m e'.op = true ∧ e'.id = i ∧ hget (sw (bit m e.op) (hput (withPool m pool h) e.id e.blk) (withPool m pool h)) i = e'.blk) ∨
      ((∀ e' ∈ e :: pool, bit m e'.op = true → e'.id ≠ i) ∧ hget (sw (bit m e.op) (hput (withPool m pool h) e.id e.blk) (withPool m pool h)) i = hget h i)
    cases hb : bit m e.op with
    | false =>
      rw [sw_false]
      rcases ih with ⟨e', h1, h2⟩ | ⟨h1, h2⟩
      · exact .inl ⟨e', List.mem_cons_of_mem _ h1, h2⟩
      · refine .inr ⟨fun e' he' hb' => ?_, h2⟩
        cases he' with
        | head => rw [hb] at hb'; cases hb'
        | tail _ he' => exact h1 e' he' hb'
    | true =>
      rw [sw_true, hget_hput _ _ _ _ (hp e (by simp)) hi]
      by_cases he : i = e.id
      · rw [if_pos he]; exact .inl ⟨e, by simp, hb, he.symm, rfl⟩
      · rw [if_neg he]
        rcases ih with ⟨e', h1, h2⟩ | ⟨h1, h2⟩
        · exact .inl ⟨e', List.mem_cons_of_mem _ h1, h2⟩
        · refine .inr ⟨fun e' he' hb' => ?_, h2⟩
          cases he' with
          | head => exact fun h => he h.symm
          | tail _ he' => exact h1 e' he' hb'
theorem allPool_get {i : Nat} (hi : i < most) : ∀ {pool : List PE}, (∀ e ∈ pool, e.id < most) →
    (∃ e ∈ pool, e.id = i ∧ hget (allPool pool h) i = e.blk) ∨ ((∀ e ∈ pool, e.id ≠ i) ∧ hget (allPool pool h) i = hget h i)
  | [], _ => .inr ⟨by simp, rfl⟩
  | e :: pool, hp => by
    have ih := allPool_get hi (pool := pool) (fun e' he' => hp e' (List.mem_cons_of_mem _ he'))
    show (∃ e' ∈ e :: pool, e'.id = i ∧ hget (hput (allPool pool h) e.id e.blk) i = e'.blk) ∨ ((∀ e' ∈ e :: pool, e'.id ≠ i) ∧ hget (hput (allPool pool h) e.id e.blk) i = hget h i)
    rw [hget_hput _ _ _ _ (hp e (by simp)) hi]
    by_cases he : i = e.id
    · rw [if_pos he]; exact .inl ⟨e, by simp, he.symm, rfl⟩
    · rw [if_neg he]
      rcases ih with ⟨e', h1, h2⟩ | ⟨h1, h2⟩
      · exact .inl ⟨e', List.mem_cons_of_mem _ h1, h2⟩
      · refine .inr ⟨fun e' he' => ?_, h2⟩
        cases he' with
        | head => exact fun h => he h.symm
        | tail _ he' => exact h1 e' he'
theorem withPool_nx {m : Nat} : ∀ {pool : List PE}, (withPool m pool h).nx = h.nx
  | [] => rfl
  | e :: pool => by
    show (sw (bit m e.op) (hput (withPool m pool h) e.id e.blk) (withPool m pool h)).nx = h.nx
    cases bit m e.op
    · exact withPool_nx
    · show (withPool m pool h).nx = h.nx; exact withPool_nx
theorem allPool_nx : ∀ {pool : List PE}, (allPool pool h).nx = h.nx
  | [] => rfl
  | e :: pool => by
    show (hput (allPool pool h) e.id e.blk).nx = h.nx
    show (allPool pool h).nx = h.nx; exact allPool_nx
theorem without_mem {m : Nat} {e : PE} : ∀ {pool : List PE}, e ∈ without m pool ↔ e ∈ pool ∧ bit m e.op = false
  | [] => by simp [without]
  | e' :: pool => by
    have ih := without_mem (m := m) (e := e) (pool := pool)
    show e ∈ sw (bit m e'.op) (without m pool) (e' :: without m pool) ↔ _
    cases hb : bit m e'.op with
    | true =>
      rw [sw_true, ih]
      constructor
      · rintro ⟨h1, h2⟩; exact ⟨List.mem_cons_of_mem _ h1, h2⟩
      · rintro ⟨h1, h2⟩
        cases h1 with
        | head => rw [hb] at h2; cases h2
        | tail _ h1 => exact ⟨h1, h2⟩
    | false =>
      rw [sw_false, List.mem_cons, ih]
      constructor
      · rintro (rfl | ⟨h1, h2⟩)
        · exact ⟨by simp, hb⟩
        · exact ⟨List.mem_cons_of_mem _ h1, h2⟩
      · rintro ⟨h1, h2⟩
        cases h1 with
        | head => exact .inl rfl
        | tail _ h1 => exact .inr ⟨h1, h2⟩
theorem sameIn_spec {f : Rg → AH → R1} {r : Rg} {v : AV} {m : Nat} {pool : List PE} : ∀ {n : Nat} {old : List AH}, sameIn f r v m pool n old = true → ∀ c, c < n → ∀ h, old[c]? = some h → f r (withPool m pool h) = .ok v
  | 0, old, _, c, hc, _, _ => by omega
  | n + 1, [], hs, c, hc, h, hh => by simp at hh
  | n + 1, h1 :: t, hs, c, hc, h, hh => by
    change onR1 (f r (withPool m pool h1)) (fun v' => sw (beq1 v v') (sameIn f r v m pool n t) false) false = true at hs
    obtain ⟨v', hv, hs⟩ := onR1_inv hs (by simp)
    obtain ⟨hb, hs⟩ := sw_inv hs (by simp)
    cases c with
    | zero => simp at hh; subst hh; rw [hv, beq1_eq hb]
    | succ c => exact sameIn_spec hs c (by omega) h (by simpa using hh)
theorem again_spec {bs : List Nat} {m : Nat} {pool : List PE} : ∀ {log : List LE}, again bs m pool h log = true → ∀ e ∈ log, bit m e.op = false → e.f e.r (withPool (bs.getD e.op 0) pool h) = .ok e.v
  | [], _, e, he, _ => by cases he
  | e' :: log, hs, e, he, hb => by
    have hs : sw (bit m e'.op) (again bs m pool h log) (onR1 (e'.f e'.r (withPool (again.nthM bs e'.op) pool h)) (fun v' => sw (beq1 e'.v v') (again bs m pool h log) false) false) = true := hs
    have hnth : ∀ j, again.nthM bs j = bs.getD j 0 := fun j => nthN'_eq bs j
    cases hb' : bit m e'.op with
    | true =>
      rw [hb', sw_true] at hs
      cases he with
      | head => rw [hb'] at hb; cases hb
      | tail _ he => exact again_spec hs e he hb
    | false =>
      rw [hb', sw_false] at hs
      obtain ⟨v', hv, hs⟩ := onR1_inv hs (by simp)
      obtain ⟨hbq, hs⟩ := sw_inv hs (by simp)
      cases he with
      | head => rw [← hnth, hv, beq1_eq hbq]
      | tail _ he => exact again_spec hs e he hb
end
end Go.Proofs.YteahdpjeoeeemaaGreatDoor.Ax

namespace Go.Proofs.YteahdpjeoeeemaaGreatDoor.Ax
set_option linter.unusedVariables false
set_option linter.unusedSimpArgs false
set_option linter.unnecessarySimpa false

theorem filter_one {α : Type} (p : α → Bool) (x : α) : (List.filter p [x]).length = if p x then 1 else 0 := by
  cases h : p x <;> simp [h]
noncomputable section defs

def rkOf (P : Program) (nt : Nat) (ops : Array Oper) (i : Nat) : Nat := ((List.range i).filter fun j => ((ops.toList.map (cOp P nt)).map isAlloc).getD j false).length
def nOf (P : Program) (nt : Nat) (ops : Array Oper) (bs : List Nat) (i : Nat) : Nat := louds ((ops.toList.map (cOp P nt)).map isLoud) i (bs.getD i 0)
def infoAt (P : Program) (nt : Nat) (ops : Array Oper) (bs : List Nat) (i : Nat) (o : Oper) : OI := ⟨o, i, bs.getD i 0, rkOf P nt ops i, nOf P nt ops bs i, Nat.beq (nOf P nt ops bs i) 0⟩
def naOf (P : Program) (nt : Nat) (ops : Array Oper) : Nat := ((ops.toList.map (cOp P nt)).filter isAlloc).length
end defs

section
variable {P : Program} {σ : Nat → ByteArray} {nt : Nat} {ops : Array Oper} {bs : List Nat}

theorem infos_get (hl : bs.length = ops.size) : (infos P nt ops bs).length = ops.size ∧ ∀ i o, ops[i]? = some o → (infos P nt ops bs)[i]? = some (infoAt P nt ops bs i o) := by
  refine ⟨by simp [infos, hl], ?_⟩
  intro i o ho
  have hi : i < ops.size := (Array.getElem?_eq_some_iff.1 ho).1
  have h1 : ((List.range ops.size).zip (ops.toList.zip bs))[i]? = some (i, o, bs.getD i 0) := by
    rw [List.getElem?_zip_eq_some]
    refine ⟨by simp [hi], ?_⟩
    rw [List.getElem?_zip_eq_some]
    refine ⟨by simpa using ho, ?_⟩
    rw [List.getD_eq_getElem?_getD, List.getElem?_eq_getElem (by omega)]; rfl
  unfold infos
  simp only [List.getElem?_map, h1, Option.map_some]
  rfl
theorem kinds_getD {p : KOp → Bool} {i : Nat} {o : Oper} (ho : ops[i]? = some o) : ((ops.toList.map (cOp P nt)).map p).getD i false = p (cOp P nt o) := by
  rw [List.getD_eq_getElem?_getD, List.getElem?_map, List.getElem?_map]
  have : ops.toList[i]? = some o := by simpa using ho
  rw [this]; rfl
theorem rk_succ {i : Nat} {o : Oper} (ho : ops[i]? = some o) : rkOf P nt ops (i + 1) = rkOf P nt ops i + (if isAlloc (cOp P nt o) then 1 else 0) := by
  unfold rkOf
  rw [List.range_succ, List.filter_append, List.length_append]
  rw [filter_one, kinds_getD ho]
theorem rk_mono {i : Nat} : ∀ {j : Nat}, i ≤ j → rkOf P nt ops i ≤ rkOf P nt ops j
  | 0, h => by
    have : i = 0 := by omega
    subst this; exact Nat.le_refl _
  | j + 1, h => by
    rcases Nat.lt_or_ge i (j + 1) with h1 | h1
    · refine Nat.le_trans (rk_mono (j := j) (by omega)) ?_
      unfold rkOf
      rw [List.range_succ, List.filter_append, List.length_append]
      omega
    · have : i = j + 1 := by omega
      subst this; exact Nat.le_refl _
theorem rk_take : ∀ {i : Nat}, i ≤ ops.size → rkOf P nt ops i = (((ops.toList.map (cOp P nt)).take i).filter isAlloc).length
  | 0, _ => rfl
  | i + 1, h => by
    have hi : i < ops.size := h
    have ho : ops[i]? = some ops[i] := by simp [hi]
    have ho' : (ops.toList.map (cOp P nt))[i]? = some (cOp P nt ops[i]) := by
      rw [List.getElem?_map]
      have : ops.toList[i]? = some ops[i] := by simpa using ho
      rw [this]; rfl
    rw [rk_succ ho, rk_take (i := i) (by omega), List.take_add_one, ho', List.filter_append, List.length_append]
    simp only [Option.toList_some, filter_one]
theorem rk_lt {i j : Nat} {o : Oper} (ho : ops[i]? = some o) (ha : isAlloc (cOp P nt o) = true) (hij : i < j) : rkOf P nt ops i < rkOf P nt ops j := by
  have h1 := rk_succ (P := P) (nt := nt) ho
  rw [if_pos ha] at h1
  have h2 := rk_mono (P := P) (nt := nt) (ops := ops) (show i + 1 ≤ j from hij)
  omega
theorem rk_na {i : Nat} {o : Oper} (ho : ops[i]? = some o) (ha : isAlloc (cOp P nt o) = true) : rkOf P nt ops i < naOf P nt ops := by
  have hi : i < ops.size := (Array.getElem?_eq_some_iff.1 ho).1
  have := rk_lt ho ha hi
  rw [rk_take (i := ops.size) (Nat.le_refl _)] at this
  have h2 : (ops.toList.map (cOp P nt)).take ops.size = ops.toList.map (cOp P nt) := by
    apply List.take_of_length_le
    simp
  rw [h2] at this
  exact this

/-- a region's run in the text's order, as it went -/
structure DR (P : Program) (nt : Nat) (ops : Array Oper) (bs : List Nat) (E : Env) (nx0 : Nat) (st : Nat → DS) (out : Nat → AV) : Prop where
  rok : RegionOk ops bs
  step : ∀ i o, ops[i]? = some o → FullStep P nt ops bs E nx0 (infoAt P nt ops bs i o) (st i) (st (i + 1)) (out i)
  small : nt ≤ 512
  old0 : (st 0).old = []
  pool0 : (st 0).pool = []
  log0 : (st 0).log = []
  fits : nx0 + naOf P nt ops ≤ most
variable {E : Env} {nx0 : Nat} {st : Nat → DS} {out : Nat → AV}

def LoudAt (P : Program) (nt : Nat) (ops : Array Oper) (st : Nat → DS) (i : Nat) : Prop := ∃ o f, ops[i]? = some o ∧ cOp P nt o = .loud f ∧ Goes ops nt o (st i).r
def AllocAt (P : Program) (nt : Nat) (ops : Array Oper) (nx0 : Nat) (st : Nat → DS) (out : Nat → AV) (j id : Nat) (b : Blk) : Prop :=
  ∃ o f, ops[j]? = some o ∧ cOp P nt o = .alloc f ∧ Goes ops nt o (st j).r ∧ id = nx0 + rkOf P nt ops j ∧ f (st j).r id = .ok (out j) b
def Merged (P : Program) (nt : Nat) (ops : Array Oper) (bs : List Nat) (st : Nat → DS) (k j : Nat) : Prop := ∃ l, l < k ∧ j < l ∧ LoudAt P nt ops st l ∧ bit (bs.getD l 0) j = true

theorem goes_skips {o : Oper} {r : Rg} (h1 : Goes ops nt o r) (h2 : Skips ops nt o r) : False := by
  obtain ⟨t, want, j, h3, h4, _, h5⟩ := h2
  rcases h1 with h1 | ⟨t', want', j', h6, h7, _, h8⟩
  · rw [h1] at h3; cases h3
  · rw [h3] at h6; cases h6
    rw [h4] at h7; cases h7
    rw [h5] at h8; cases h8
theorem AllocAt.id_eq {j id : Nat} {b : Blk} (h : AllocAt P nt ops nx0 st out j id b) : id = nx0 + rkOf P nt ops j ∧ rkOf P nt ops j < naOf P nt ops := by
  obtain ⟨o, f, ho, hop, _, hid, _⟩ := h
  exact ⟨hid, rk_na ho (by rw [hop]; rfl)⟩
theorem AllocAt.inj {j j' id : Nat} {b b' : Blk} (h : AllocAt P nt ops nx0 st out j id b) (h' : AllocAt P nt ops nx0 st out j' id b') : j = j' ∧ b = b' := by
  have hjj : j = j' := by
    obtain ⟨o, f, ho, hop, _, hid, _⟩ := h
    obtain ⟨o', f', ho', hop', _, hid', _⟩ := h'
    rcases Nat.lt_trichotomy j j' with hlt | heq | hgt
    · have := rk_lt (P := P) (nt := nt) ho (by rw [hop]; rfl) hlt; omega
    · exact heq
    · have := rk_lt (P := P) (nt := nt) ho' (by rw [hop']; rfl) hgt; omega
  subst hjj
  refine ⟨rfl, ?_⟩
  obtain ⟨o, f, ho, hop, _, hid, hf⟩ := h
  obtain ⟨o', f', ho', hop', _, hid', hf'⟩ := h'
  rw [ho] at ho'; cases ho'
  rw [hop] at hop'; cases hop'
  rw [hf] at hf'; cases hf'; rfl
theorem DR.lt {i : Nat} {o : Oper} (ho : ops[i]? = some o) : i < ops.size := (Array.getElem?_eq_some_iff.1 ho).1

/-- what a loud operation did -/
theorem DR.loud (D : DR P nt ops bs E nx0 st out) {i : Nat} {o : Oper} {f : Env → Rg → AH → RH} (ho : ops[i]? = some o) (hop : cOp P nt o = .loud f) (hg : Goes ops nt o (st i).r) :
    nOf P nt ops bs i = 0 ∧ f E (st i).r (withPool (bs.getD i 0) (st i).pool (st i).h) = .ok (out i) (st (i + 1)).h ∧ again bs (bs.getD i 0) (without (bs.getD i 0) (st i).pool) (st (i + 1)).h (st i).log = true ∧
      (st (i + 1)).old = (st i).h :: (st i).old ∧ (st (i + 1)).pool = without (bs.getD i 0) (st i).pool ∧ (st (i + 1)).log = (st i).log := by
  obtain ⟨_, _, h⟩ := D.step i o ho
  have hop' : cOp P nt (infoAt P nt ops bs i o).o = .loud f := hop
  cases h with
  | skip hs => exact (goes_skips hg hs).elim
  | pure f' _ h1 => rw [hop'] at h1; cases h1
  | read f' _ h1 => rw [hop'] at h1; cases h1
  | alloc f' b _ h1 => rw [hop'] at h1; cases h1
  | loud f' _ h1 h2 h3 h4 h5 h6 h7 =>
    rw [hop'] at h1; cases h1
    exact ⟨Nat.eq_of_beq_eq_true h2, h3, h4, h5, h6, h7⟩
theorem DR.calm (D : DR P nt ops bs E nx0 st out) {i : Nat} (hi : i < ops.size) (hn : ¬ LoudAt P nt ops st i) : (st (i + 1)).h = (st i).h ∧ (st (i + 1)).old = (st i).old := by
  have ho : ops[i]? = some ops[i] := by simp [hi]
  obtain ⟨_, _, h⟩ := D.step i _ ho
  cases h with
  | skip _ _ hs => exact ⟨hs.1, hs.2.1⟩
  | pure _ _ _ _ hs => exact ⟨hs.1, hs.2.1⟩
  | read _ _ _ _ _ hs => exact ⟨hs.1, hs.2.1⟩
  | alloc _ _ _ _ _ h1 h2 => exact ⟨h1, h2⟩
  | loud f hg hop => exact absurd ⟨_, f, ho, hop, hg⟩ hn
theorem DR.span (D : DR P nt ops bs E nx0 st out) {k : Nat} : ∀ {m : Nat}, k ≤ m → m ≤ ops.size → (∀ l, k ≤ l → l < m → ¬ LoudAt P nt ops st l) → (st m).h = (st k).h
  | 0, h1, _, _ => by
    have : k = 0 := by omega
    subst this; rfl
  | m + 1, h1, h2, hn => by
    rcases Nat.lt_or_ge k (m + 1) with h3 | h3
    · rw [(D.calm (by omega) (hn m (by omega) (by omega))).1]
      exact D.span (by omega) (by omega) fun l hl hl' => hn l hl (by omega)
    · have : k = m + 1 := by omega
      subst this; rfl
theorem DR.nomerge (D : DR P nt ops bs E nx0 st out) {i : Nat} (hn : ¬ LoudAt P nt ops st i) (j : Nat) : Merged P nt ops bs st (i + 1) j ↔ Merged P nt ops bs st i j := by
  constructor
  · rintro ⟨l, h1, h2, h3, h4⟩
    refine ⟨l, ?_, h2, h3, h4⟩
    have : l ≠ i := fun e => hn (by rw [← e]; exact h3)
    omega
  · rintro ⟨l, h1, h2⟩; exact ⟨l, by omega, h2⟩
theorem DR.pool (D : DR P nt ops bs E nx0 st out) : ∀ {k : Nat}, k ≤ ops.size → ∀ (j id : Nat) (b : Blk), (⟨j, id, b⟩ : PE) ∈ (st k).pool ↔ AllocAt P nt ops nx0 st out j id b ∧ j < k ∧ ¬ Merged P nt ops bs st k j
  | 0, _, j, id, b => by rw [D.pool0]; simp
  | k + 1, hk, j, id, b => by
    have ih := D.pool (k := k) (by omega) j id b
    have ho : ops[k]? = some ops[k] := by simp [show k < ops.size from hk]
    obtain ⟨_, _, hstep⟩ := D.step k _ ho
    -- a step that makes none and merges none
    have idle : (st (k + 1)).pool = (st k).pool → ¬ LoudAt P nt ops st k → (∀ id b, ¬ AllocAt P nt ops nx0 st out k id b) → ((⟨j, id, b⟩ : PE) ∈ (st (k + 1)).pool ↔ AllocAt P nt ops nx0 st out j id b ∧ j < k + 1 ∧ ¬ Merged P nt ops bs st (k + 1) j) := by
      intro hp hn ha
      rw [hp, ih, D.nomerge hn]
      constructor
      · rintro ⟨h1, h2, h3⟩; exact ⟨h1, by omega, h3⟩
      · rintro ⟨h1, h2, h3⟩
        have : j ≠ k := fun e => ha id b (by rw [← e]; exact h1)
        exact ⟨h1, by omega, h3⟩
    have noL : ∀ {x : KOp}, cOp P nt ops[k] = x → isLoud x = false → ¬ LoudAt P nt ops st k := by
      rintro x hx hl ⟨o', f, ho', hop, _⟩
      rw [ho] at ho'; cases ho'
      rw [hx] at hop; rw [hop] at hl; cases hl
    have noA : ∀ {x : KOp}, cOp P nt ops[k] = x → isAlloc x = false → ∀ id b, ¬ AllocAt P nt ops nx0 st out k id b := by
      rintro x hx hl id b ⟨o', f, ho', hop, _⟩
      rw [ho] at ho'; cases ho'
      rw [hx] at hop; rw [hop] at hl; cases hl
    cases hstep with
    | skip hs _ hsame =>
      refine idle hsame.2.2 ?_ ?_
      · rintro ⟨o', f, ho', _, hg⟩
        rw [ho] at ho'; cases ho'
        exact goes_skips hg hs
      · rintro id b ⟨o', f, ho', _, hg, _⟩
        rw [ho] at ho'; cases ho'
        exact goes_skips hg hs
    | pure f hg hop _ hsame => exact idle hsame.2.2 (noL hop rfl) (noA hop rfl)
    | read f hg hop _ _ hsame => exact idle hsame.2.2 (noL hop rfl) (noA hop rfl)
    | alloc f b0 hg hop hf _ _ _ hp =>
      have hn := noL (x := .alloc f) hop rfl
      rw [hp, List.mem_cons, ih, D.nomerge hn]
      have hA : AllocAt P nt ops nx0 st out k (nx0 + rkOf P nt ops k) b0 := ⟨_, f, ho, hop, hg, rfl, hf⟩
      constructor
      · rintro (h1 | ⟨h1, h2, h3⟩)
        · cases h1
          refine ⟨hA, by show k < k + 1; omega, ?_⟩
          rintro ⟨l, h1, h2, _⟩
          have h2 : k < l := h2
          omega
        · exact ⟨h1, by omega, h3⟩
      · rintro ⟨h1, h2, h3⟩
        by_cases hj : j = k
        · subst hj
          left
          have e1 := h1.id_eq.1
          subst e1
          rw [(h1.inj hA).2]
          rfl
        · exact .inr ⟨h1, by omega, h3⟩
    | loud f hg hop hfine _ _ _ hp _ =>
      have hL : LoudAt P nt ops st k := ⟨_, f, ho, hop, hg⟩
      rw [hp, without_mem, ih]
      constructor
      · rintro ⟨⟨h1, h2, h3⟩, h4⟩
        refine ⟨h1, by omega, ?_⟩
        rintro ⟨l, h5, h6, h7, h8⟩
        by_cases hl : l = k
        · subst hl
          have h4 : bit (bs.getD l 0) j = false := h4
          rw [h4] at h8; cases h8
        · exact h3 ⟨l, by omega, h6, h7, h8⟩
      · rintro ⟨h1, h2, h3⟩
        have hjk : j ≠ k := by
          intro e; subst e
          exact noA (x := .loud f) hop rfl id b h1
        refine ⟨⟨h1, by omega, fun ⟨l, h5, h6⟩ => h3 ⟨l, by omega, h6⟩⟩, ?_⟩
        show bit (bs.getD k 0) j = false
        cases hb : bit (bs.getD k 0) j with
        | false => rfl
        | true => exact absurd ⟨k, by omega, by omega, hL, hb⟩ h3
theorem DR.log (D : DR P nt ops bs E nx0 st out) {i : Nat} {o : Oper} {f : Rg → AH → R1} (ho : ops[i]? = some o) (hop : cOp P nt o = .read f) (hg : Goes ops nt o (st i).r) :
    f (st i).r (withPool (bs.getD i 0) (st i).pool (st i).h) = .ok (out i) ∧ sameIn f (st i).r (out i) (bs.getD i 0) (st i).pool (nOf P nt ops bs i) (st i).old = true ∧ ∀ k, i < k → k ≤ ops.size → (⟨i, f, (st i).r, out i⟩ : LE) ∈ (st k).log := by
  obtain ⟨_, _, h⟩ := D.step i o ho
  have hop' : cOp P nt (infoAt P nt ops bs i o).o = .read f := hop
  have keep : ∀ k, k < ops.size → ∀ e ∈ (st k).log, e ∈ (st (k + 1)).log := by
    intro k hk e he
    have hok : ops[k]? = some ops[k] := by simp [hk]
    obtain ⟨_, _, h'⟩ := D.step k _ hok
    cases h' with
    | skip _ _ _ hl => rw [hl]; exact he
    | pure _ _ _ _ _ hl => rw [hl]; exact he
    | read _ _ _ _ _ _ hl => rw [hl]; exact List.mem_cons_of_mem _ he
    | alloc _ _ _ _ _ _ _ hl => rw [hl]; exact he
    | loud _ _ _ _ _ _ _ _ hl => rw [hl]; exact he
  cases h with
  | skip hs => exact (goes_skips hg hs).elim
  | pure f' _ h1 => rw [hop'] at h1; cases h1
  | alloc f' b _ h1 => rw [hop'] at h1; cases h1
  | loud f' _ h1 => rw [hop'] at h1; cases h1
  | read f' _ h1 h2 h3 h4 h5 =>
    rw [hop'] at h1; cases h1
    refine ⟨h2, h3, ?_⟩
    intro k hik hk
    induction k with
    | zero => omega
    | succ k ih =>
      by_cases hki : k = i
      · subst hki; rw [h5]; exact List.mem_cons_self
      · exact keep k (by omega) _ (ih (by omega) (by omega))
/-- the memories that lie behind -/
theorem DR.behind (D : DR P nt ops bs E nx0 st out) {κ i : Nat} (hi : i ≤ ops.size) (hno : ∀ l, κ ≤ l → l < i → LoudAt P nt ops st l → bit (bs.getD i 0) l = false) : ∀ {k : Nat}, κ ≤ k → k ≤ i →
    ∃ c, c ≤ ((List.range k).filter fun j => ((ops.toList.map (cOp P nt)).map isLoud).getD j false && !bit (bs.getD i 0) j).length ∧ ((c = 0 ∧ (st k).h = (st κ).h) ∨ ∃ c', c = c' + 1 ∧ (st k).old[c']? = some (st κ).h)
  | 0, h1, _ => ⟨0, Nat.zero_le _, .inl ⟨rfl, by have : κ = 0 := by omega
                                                 rw [this]⟩⟩
  | k + 1, h1, h2 => by
    rcases Nat.lt_or_ge κ (k + 1) with h3 | h3
    · obtain ⟨c, hc, hcase⟩ := D.behind hi hno (k := k) (by omega) (by omega)
      have hk : k < ops.size := by omega
      have ho : ops[k]? = some ops[k] := by simp [hk]
      by_cases hL : LoudAt P nt ops st k
      · have hbit := hno k (by omega) (by omega) hL
        obtain ⟨o', f, ho', hop, hg⟩ := hL
        rw [ho] at ho'; cases ho'
        obtain ⟨_, _, _, hold, _, _⟩ := D.loud ho hop hg
        refine ⟨c + 1, ?_, .inr ⟨c, rfl, ?_⟩⟩
        · rw [List.range_succ, List.filter_append, List.length_append, filter_one, kinds_getD ho, hop, hbit]
          show c + 1 ≤ _ + 1
          omega
        · rw [hold]
          rcases hcase with ⟨rfl, hh⟩ | ⟨c', rfl, hh⟩
          · rw [← hh]; rfl
          · exact hh
      · obtain ⟨e1, e2⟩ := D.calm hk hL
        refine ⟨c, ?_, ?_⟩
        · rw [List.range_succ, List.filter_append, List.length_append]; omega
        · rw [e1, e2]; exact hcase
    · have : κ = k + 1 := by omega
      subst this
      exact ⟨0, Nat.zero_le _, .inl ⟨rfl, rfl⟩⟩
end
end Go.Proofs.YteahdpjeoeeemaaGreatDoor.Ax

namespace Go.Proofs.YteahdpjeoeeemaaGreatDoor.Ax
set_option linter.unusedVariables false
set_option linter.unusedSimpArgs false
set_option linter.unnecessarySimpa false

noncomputable section defs
/-- the registers after those operations below n of which T holds -/
def regF (dst : Nat → Option Nat) (out : Nat → AV) (T : Nat → Bool) (r0 : Rg) : Nat → Rg
  | 0 => r0
  | k + 1 => if T k then (setD (dst k)).run (out k) (regF dst out T r0 k) else regF dst out T r0 k
end defs
def dstAt (ops : Array Oper) (k : Nat) : Option Nat := (ops[k]?).bind (·.dst)

section
variable {dst : Nat → Option Nat} {out : Nat → AV} {T T' : Nat → Bool} {r0 : Rg}

theorem setD_get {d : Option Nat} {v : AV} {r : Rg} {t : Nat} (hd : ∀ x, d = some x → x < 512) (ht : t < 512) : Hp.get 3 t ((setD d).run v r).t = if d = some t then v else Hp.get 3 t r.t := by
  cases d with
  | none => rw [if_neg (by simp)]; rfl
  | some x =>
    rw [setD_some, Hp.get_set 3 x t v r.t (hd x rfl) ht]
    by_cases h : t = x
    · subst h; rw [if_pos rfl, if_pos rfl]
    · rw [if_neg h, if_neg (by simpa using fun e => h e.symm)]
theorem regF_same {n : Nat} (h : ∀ k, k < n → T k = T' k) : regF dst out T r0 n = regF dst out T' r0 n := by
  induction n with
  | zero => rfl
  | succ n ih =>
    unfold regF
    rw [ih (fun k hk => h k (by omega)), h n (by omega)]
theorem regF_stop {i : Nat} (h : ∀ k, i ≤ k → T k = false) : ∀ {n : Nat}, i ≤ n → regF dst out T r0 n = regF dst out T r0 i
  | 0, hi => by
    have : i = 0 := by omega
    subst this; rfl
  | n + 1, hi => by
    rcases Nat.lt_or_ge i (n + 1) with h1 | h1
    · rw [show regF dst out T r0 (n + 1) = if T n then (setD (dst n)).run (out n) (regF dst out T r0 n) else regF dst out T r0 n from rfl, h n (by omega)]
      exact regF_stop h (by omega)
    · have : i = n + 1 := by omega
      subst this; rfl
theorem regF_agree {t : Nat} (hd : ∀ k x, dst k = some x → x < 512) (ht : t < 512) : ∀ {n : Nat}, (∀ k, k < n → dst k = some t → T k = T' k) → Hp.get 3 t (regF dst out T r0 n).t = Hp.get 3 t (regF dst out T' r0 n).t
  | 0, _ => rfl
  | n + 1, h => by
    have ih := regF_agree hd ht (n := n) (fun k hk => h k (by omega))
    have one : ∀ T : Nat → Bool, Hp.get 3 t (regF dst out T r0 (n + 1)).t = if dst n = some t ∧ T n = true then out n else Hp.get 3 t (regF dst out T r0 n).t := by
      intro T
      show Hp.get 3 t (if T n then (setD (dst n)).run (out n) (regF dst out T r0 n) else regF dst out T r0 n).t = _
      cases hT : T n with
      | false => rw [if_neg (by simp), if_neg (by simp)]
      | true => rw [if_pos rfl, setD_get (hd n) ht]; simp
    rw [one T, one T', ih]
    by_cases hdn : dst n = some t
    · rw [h n (by omega) hdn]
    · rw [if_neg (fun c => hdn c.1), if_neg (fun c => hdn c.1)]
theorem regF_own {t i : Nat} (hd : ∀ k x, dst k = some x → x < 512) (ht : t < 512) (hi : dst i = some t) (hT : T i = true) : ∀ {n : Nat}, i < n → (∀ k, i < k → k < n → dst k = some t → T k = false) → Hp.get 3 t (regF dst out T r0 n).t = out i
  | 0, h, _ => by omega
  | n + 1, h, hno => by
    show Hp.get 3 t (if T n then (setD (dst n)).run (out n) (regF dst out T r0 n) else regF dst out T r0 n).t = _
    by_cases hin : i = n
    · subst hin
      rw [if_pos hT, setD_get (hd i) ht, if_pos hi]
    · have ih := regF_own hd ht hi hT (n := n) (by omega) (fun k h1 h2 => hno k h1 (by omega))
      by_cases hdn : dst n = some t
      · rw [hno n (by omega) (by omega) hdn, if_neg (by simp)]; exact ih
      · split
        · rw [setD_get (hd n) ht, if_neg hdn]; exact ih
        · exact ih
end

def In (l : Array Bool) (i : Nat) : Prop := l.getD i false = true
section
variable {P : Program} {σ : Nat → ByteArray} {nt : Nat} {ops : Array Oper} {bs : List Nat} {E : Env} {nx0 : Nat} {st : Nat → DS} {out : Nat → AV}

theorem DR.dst (D : DR P nt ops bs E nx0 st out) : ∀ k x, dstAt ops k = some x → x < nt := by
  intro k x hx
  unfold dstAt at hx
  cases ho : ops[k]? with
  | none => rw [ho] at hx; cases hx
  | some o =>
    rw [ho] at hx
    exact (D.step k o ho).2.1 x hx
theorem DR.dst512 (D : DR P nt ops bs E nx0 st out) : ∀ k x, dstAt ops k = some x → x < 512 := fun k x hx => Nat.lt_of_lt_of_le (D.dst k x hx) D.small
theorem DR.regs (D : DR P nt ops bs E nx0 st out) : ∀ {i : Nat}, i ≤ ops.size → (st i).r = regF (dstAt ops) out (fun k => decide (k < i)) (st 0).r ops.size := by
  have h1 : ∀ {i : Nat}, i ≤ ops.size → (st i).r = regF (dstAt ops) out (fun _ => true) (st 0).r i := by
    intro i
    induction i with
    | zero => intro _; rfl
    | succ i ih =>
      intro hi
      have ho : ops[i]? = some ops[i] := by simp [show i < ops.size from hi]
      have := (D.step i _ ho).1
      rw [this, ih (by omega)]
      show (setD ops[i].dst).run (out i) _ = (setD (dstAt ops i)).run (out i) _
      unfold dstAt
      rw [ho]; rfl
  intro i hi
  rw [h1 hi, regF_stop (i := i) (T := fun k => decide (k < i)) (fun k hk => by simp; omega) hi]
  exact regF_same fun k hk => by simp [hk]

/-- the state when some are done -/
structure Inv (P : Program) (σ : Nat → ByteArray) (nt : Nat) (ops : Array Oper) (bs : List Nat) (nx0 : Nat) (st : Nat → DS) (out : Nat → AV) (ρ0 : Rho) (h0 : AH) (w0 : World) (ds : List Deferred)
    (l : Array Bool) (κ : Nat) (g : Nat → Blk) (ρ : Rho) (a : Act) (w : World) : Prop where
  size : l.size = ops.size
  closed : ∀ i, i < ops.size → In l i → ∀ j, bit (bs.getD i 0) j = true → In l j
  stage : ∀ i, LoudAt P nt ops st i → (In l i ↔ i < κ)
  kle : κ ≤ ops.size
  pooled : ∀ j id b, AllocAt P nt ops nx0 st out j id b → In l j → ¬ Merged P nt ops bs st κ j → g id = b
  rest : ∀ i, i < most → (∀ j b, AllocAt P nt ops nx0 st out j i b → In l j → Merged P nt ops bs st κ j) → g i = hget (st κ).h i
  rel : RelF P.globals.size ρ σ g (st κ).h.nx w
  fr : FrF ρ0 h0 w0 ρ g (st κ).h.nx w
  unset : ∀ j id b, AllocAt P nt ops nx0 st out j id b → ¬ In l j → ρ id = none
  dead : ∀ j id b, AllocAt P nt ops nx0 st out j id b → ¬ Merged P nt ops bs st κ j → hget (st κ).h id = .dead
  low : nx0 + naOf P nt ops ≤ (st κ).h.nx
  reg : RegOk ρ σ nt (regF (dstAt ops) out (fun k => l.getD k false) (st 0).r ops.size) a
  dfr : a.defers = ds

theorem In.set {l : Array Bool} {i j : Nat} (hi : i < l.size) : In (l.setIfInBounds i true) j ↔ j = i ∨ In l j := by
  unfold In
  rw [Array.getD_eq_getD_getElem?, Array.getD_eq_getD_getElem?, Array.getElem?_setIfInBounds]
  by_cases h : i = j
  · subst h; rw [if_pos rfl, if_pos hi]; simp
  · rw [if_neg h]
    constructor
    · exact fun h => .inr h
    · rintro (h1 | h1)
      · exact absurd h1.symm h
      · exact h1
theorem In.lt {l : Array Bool} {i : Nat} (h : In l i) : i < l.size := by
  unfold In at h
  rw [Array.getD_eq_getD_getElem?] at h
  rcases Nat.lt_or_ge i l.size with h1 | h1
  · exact h1
  · rw [Array.getElem?_eq_none h1] at h; cases h
theorem ready_iff {l : Array Bool} {i : Nat} (hl : l.size = ops.size) : i ∈ Region.ready .any ops l ↔ ∃ o, ops[i]? = some o ∧ ¬ In l i ∧ ∀ e ∈ o.after, Region.binds .any e = true → In l e.on := by
  unfold Region.ready
  rw [List.mem_filter, List.mem_range]
  constructor
  · rintro ⟨hi, h⟩
    have ho : ops[i]? = some ops[i] := by simp [hi]
    refine ⟨ops[i], ho, ?_⟩
    rw [ho] at h
    simp only [Option.map_some, Option.getD_some, Bool.and_eq_true, Bool.not_eq_true'] at h
    refine ⟨?_, ?_⟩
    · intro hin
      unfold In at hin
      have h1 := h.1
      rw [Array.getD_eq_getD_getElem?] at h1 hin
      rw [Array.getElem?_eq_getElem (by omega)] at h1 hin
      simp at h1 hin
      rw [h1] at hin; cases hin
    · intro e he hb
      have := Array.all_eq_true'.1 h.2 e he
      rw [hb] at this
      simpa [In] using this
  · rintro ⟨o, ho, hn, he⟩
    have hi := DR.lt ho
    refine ⟨hi, ?_⟩
    rw [ho]
    simp only [Option.map_some, Option.getD_some, Bool.and_eq_true, Bool.not_eq_true']
    refine ⟨?_, ?_⟩
    · unfold In at hn
      rw [Array.getD_eq_getD_getElem?] at hn ⊢
      rw [Array.getElem?_eq_getElem (by omega)] at hn ⊢
      simpa using hn
    · rw [Array.all_eq_true']
      intro e hem
      cases hb : Region.binds .any e with
      | false => rfl
      | true => simpa [In] using he e hem hb
theorem RegOk.congr {ρ : Rho} {r r' : Rg} {a : Act} (H : RegOk ρ σ nt r a) (h : ∀ t, t < nt → Hp.get 3 t r.t = Hp.get 3 t r'.t) : RegOk ρ σ nt r' a :=
  ⟨H.small, H.size, fun t ht => by rw [← h t ht]; exact H.reg t ht⟩

section inv
variable {ρ0 : Rho} {h0 : AH} {w0 : World} {ds : List Deferred} {l : Array Bool} {κ : Nat} {g : Nat → Blk} {ρ : Rho} {a : Act} {w : World}

/-- of an operation that may come up: what stands ahead is done, what names the same waits for it -/
structure Up (ops : Array Oper) (bs : List Nat) (l : Array Bool) (i : Nat) (o : Oper) : Prop where
  at_ : ops[i]? = some o
  not : ¬ In l i
  elder : ∀ j, bit (bs.getD i 0) j = true → In l j
theorem Inv.up (D : DR P nt ops bs E nx0 st out) (V : Inv P σ nt ops bs nx0 st out ρ0 h0 w0 ds l κ g ρ a w) {i : Nat} (hi : i ∈ Region.ready .any ops l) : ∃ o, Up ops bs l i o := by
  obtain ⟨o, ho, hn, he⟩ := (ready_iff V.size).1 hi
  refine ⟨o, ho, hn, fun j hj => ?_⟩
  obtain ⟨e, hem, hb, h1⟩ := D.rok.from_ i o ho j hj
  have hin := he e hem hb
  rcases h1 with rfl | h1
  · exact hin
  · exact V.closed e.on (by have := hin.lt; rw [V.size] at this; exact this) hin j h1
/-- the writers of what an operation names: those done are those ahead of it -/
theorem Inv.names (D : DR P nt ops bs E nx0 st out) (V : Inv P σ nt ops bs nx0 st out ρ0 h0 w0 ds l κ g ρ a w) {i : Nat} {o : Oper} (U : Up ops bs l i o) {t : Nat} (ht : t ∈ namesOf ops o) {k : Nat} (hk : k < ops.size) (hd : dstAt ops k = some t) :
    l.getD k false = decide (k < i) := by
  have hok : ops[k]? = some ops[k] := by simp [hk]
  have hdk : ops[k].dst = some t := by
    unfold dstAt at hd; rw [hok] at hd; exact hd
  rcases Nat.lt_trichotomy k i with h | h | h
  · rw [decide_eq_true h]
    rcases D.rok.apart k i _ o h hok U.at_ with h1 | ⟨h1, _⟩
    · exact U.elder k h1
    · exact absurd ht (h1 t hdk)
  · subst h
    rw [decide_eq_false (by omega)]
    have := U.not
    unfold In at this
    simpa using this
  · rw [decide_eq_false (by omega)]
    rcases D.rok.apart i k o _ h U.at_ hok with h1 | ⟨_, h1⟩
    · cases hl : l.getD k false with
      | false => rfl
      | true => exact absurd (V.closed k hk hl i h1) U.not
    · exact absurd ht (h1 t hdk)
theorem Inv.agree (D : DR P nt ops bs E nx0 st out) (V : Inv P σ nt ops bs nx0 st out ρ0 h0 w0 ds l κ g ρ a w) {i : Nat} {o : Oper} (U : Up ops bs l i o) {t : Nat} (ht : t ∈ namesOf ops o) (ht5 : t < 512) :
    Hp.get 3 t (regF (dstAt ops) out (fun k => l.getD k false) (st 0).r ops.size).t = Hp.get 3 t (st i).r.t := by
  have hi := DR.lt U.at_
  rw [D.regs (Nat.le_of_lt hi)]
  exact regF_agree D.dst512 ht5 fun k hk hd => V.names D U ht hk hd
/-- the registers after an operation -/
theorem Inv.put (D : DR P nt ops bs E nx0 st out) (V : Inv P σ nt ops bs nx0 st out ρ0 h0 w0 ds l κ g ρ a w) {i : Nat} {o : Oper} (U : Up ops bs l i o) {ρ' : Rho} (hle : ρ.le ρ') {x : Value} (hx : con ρ' σ (out i) = some x) :
    RegOk ρ' σ nt (regF (dstAt ops) out (fun k => (l.setIfInBounds i true).getD k false) (st 0).r ops.size) (a.put o.dst x) := by
  have hi := DR.lt U.at_
  have hil : i < l.size := by rw [V.size]; exact hi
  have hdo : dstAt ops i = o.dst := by unfold dstAt; rw [U.at_]; rfl
  have hd := D.dst i
  rw [hdo] at hd
  have hT : ∀ k, (l.setIfInBounds i true).getD k false = true ↔ k = i ∨ l.getD k false = true := fun k => In.set hil
  refine (reg_put (V.reg.mono hle) hx hd).congr fun t ht => ?_
  have ht5 : t < 512 := Nat.lt_of_lt_of_le ht D.small
  rw [setD_get (fun x hx => Nat.lt_of_lt_of_le (hd x hx) D.small) ht5]
  by_cases hdt : o.dst = some t
  · rw [if_pos hdt]
    refine (regF_own D.dst512 ht5 (by rw [hdo]; exact hdt) ((hT i).2 (.inl rfl)) hi fun k h1 h2 h3 => ?_).symm
    have := V.names D U (t := t) (by simp [namesOf, hdt]) h2 h3
    cases hk : (l.setIfInBounds i true).getD k false with
    | false => rfl
    | true =>
      rcases (hT k).1 hk with h4 | h4
      · omega
      · rw [this] at h4; simp at h4; omega
  · rw [if_neg hdt]
    refine regF_agree D.dst512 ht5 fun k hk hdk => ?_
    have hne : k ≠ i := fun e => hdt (by rw [← hdo, ← e]; exact hdk)
    cases hk1 : l.getD k false with
    | true => exact ((hT k).2 (.inr hk1)).symm
    | false =>
      cases hk2 : (l.setIfInBounds i true).getD k false with
      | false => rfl
      | true =>
        rcases (hT k).1 hk2 with h4 | h4
        · exact absurd h4 hne
        · rw [hk1] at h4; cases h4
/-- what is not loud: the stage stays -/
theorem Inv.closed' (D : DR P nt ops bs E nx0 st out) (V : Inv P σ nt ops bs nx0 st out ρ0 h0 w0 ds l κ g ρ a w) {i : Nat} {o : Oper} (U : Up ops bs l i o) : ∀ k, k < ops.size → In (l.setIfInBounds i true) k → ∀ j, bit (bs.getD k 0) j = true → In (l.setIfInBounds i true) j := by
  have hil : i < l.size := by rw [V.size]; exact DR.lt U.at_
  intro k hk hin j hj
  rw [In.set hil] at hin ⊢
  rcases hin with rfl | hin
  · exact .inr (U.elder j hj)
  · exact .inr (V.closed k hk hin j hj)
theorem Inv.fresh (V : Inv P σ nt ops bs nx0 st out ρ0 h0 w0 ds l κ g ρ a w) {j : Nat} (hn : ¬ In l j) : ¬ Merged P nt ops bs st κ j := by
  rintro ⟨m, h1, h2, h3, h4⟩
  have hm : m < ops.size := by obtain ⟨o, f, ho, _⟩ := h3; exact DR.lt ho
  exact hn (V.closed m hm ((V.stage m h3).2 h1) j h4)
theorem Inv.quiet (D : DR P nt ops bs E nx0 st out) (V : Inv P σ nt ops bs nx0 st out ρ0 h0 w0 ds l κ g ρ a w) {i : Nat} {o : Oper} (U : Up ops bs l i o) (hL : ¬ LoudAt P nt ops st i) (hA : ∀ id b, ¬ AllocAt P nt ops nx0 st out i id b)
    {x : Value} (hx : con ρ σ (out i) = some x) : Inv P σ nt ops bs nx0 st out ρ0 h0 w0 ds (l.setIfInBounds i true) κ g ρ (a.put o.dst x) w := by
  have hil : i < l.size := by rw [V.size]; exact DR.lt U.at_
  refine ⟨by simpa using V.size, V.closed' D U, ?_, V.kle, ?_, ?_, V.rel, V.fr, ?_, V.dead, V.low, V.put D U (Rho.le.refl ρ) hx, by rw [put_defers]; exact V.dfr⟩
  · intro j hj
    rw [In.set hil, ← V.stage j hj]
    constructor
    · rintro (rfl | h)
      · exact absurd hj hL
      · exact h
    · exact .inr
  · intro j id b hj hin
    rw [In.set hil] at hin
    rcases hin with rfl | hin
    · exact absurd hj (hA id b)
    · exact V.pooled j id b hj hin
  · intro k hk hall
    exact V.rest k hk fun j b hj hin => hall j b hj ((In.set hil).2 (.inr hin))
  · intro j id b hj hn
    exact V.unset j id b hj fun h => hn ((In.set hil).2 (.inr h))
end inv
end
end Go.Proofs.YteahdpjeoeeemaaGreatDoor.Ax

namespace Go.Proofs.YteahdpjeoeeemaaGreatDoor.Ax
set_option linter.unusedVariables false
set_option linter.unusedSimpArgs false
set_option linter.unnecessarySimpa false

section
variable {P : Program} {σ : Nat → ByteArray} {nt : Nat} {ops : Array Oper} {bs : List Nat} {E : Env} {nx0 : Nat} {st : Nat → DS} {out : Nat → AV}
variable {ρ0 : Rho} {h0 : AH} {w0 : World} {ds : List Deferred} {l : Array Bool} {κ : Nat} {g : Nat → Blk} {ρ : Rho} {a : Act} {w : World}

theorem Merged.up {k k' j : Nat} (h : Merged P nt ops bs st k j) (hk : k ≤ k') : Merged P nt ops bs st k' j := by
  obtain ⟨m, h1, h2⟩ := h
  exact ⟨m, by omega, h2⟩
theorem LoudAt.lt {i : Nat} (h : LoudAt P nt ops st i) : i < ops.size := by obtain ⟨o, f, ho, _⟩ := h; exact DR.lt ho
theorem DR.elder (D : DR P nt ops bs E nx0 st out) {i j : Nat} (hi : LoudAt P nt ops st i) (hj : LoudAt P nt ops st j) (hlt : j < i) : bit (bs.getD i 0) j = true := by
  obtain ⟨o, f, ho, hop, hg⟩ := hi
  obtain ⟨o', f', ho', hop', _⟩ := hj
  have h0 := (D.loud ho hop hg).1
  unfold nOf louds at h0
  have hnil := List.eq_nil_of_length_eq_zero h0
  cases hb : bit (bs.getD i 0) j with
  | true => rfl
  | false =>
    have : j ∈ (List.range i).filter fun j => ((ops.toList.map (cOp P nt)).map isLoud).getD j false && !bit (bs.getD i 0) j := by
      rw [List.mem_filter, List.mem_range]
      refine ⟨hlt, ?_⟩
      rw [kinds_getD ho', hop', hb]; rfl
    rw [hnil] at this
    cases this
theorem AllocAt.lt_nx (D : DR P nt ops bs E nx0 st out) {j id : Nat} {b : Blk} (h : AllocAt P nt ops nx0 st out j id b) : nx0 ≤ id ∧ id < nx0 + naOf P nt ops ∧ id < most := by
  obtain ⟨h1, h2⟩ := h.id_eq
  have := D.fits
  exact ⟨by omega, by omega, by omega⟩
theorem DR.pool_id (D : DR P nt ops bs E nx0 st out) {s : Nat} (hs : s ≤ ops.size) : ∀ e ∈ (st s).pool, e.id < most := by
  intro e he
  exact (((D.pool hs e.op e.id e.blk).1 he).1.lt_nx D).2.2
/-- a part of the memory: that of the stage, with some of what waits -/
theorem Inv.sub (D : DR P nt ops bs E nx0 st out) (V : Inv P σ nt ops bs nx0 st out ρ0 h0 w0 ds l κ g ρ a w) {m s : Nat} (hs : s ≤ ops.size) (hp : ∀ e ∈ (st s).pool, bit m e.op = true → In l e.op ∧ ¬ Merged P nt ops bs st κ e.op) :
    Sub (withPool m (st s).pool (st κ).h) g := by
  intro k hk hl
  rcases withPool_get (m := m) (h := (st κ).h) hk (D.pool_id hs) with ⟨e, he, hb, hid, hv⟩ | ⟨hno, hv⟩
  · rw [hv]
    obtain ⟨h1, h2⟩ := hp e he hb
    have h3 := ((D.pool hs e.op e.id e.blk).1 he).1
    rw [hid] at h3
    exact (V.pooled e.op k e.blk h3 h1 h2).symm
  · rw [hv] at hl ⊢
    refine (V.rest k hk fun j b hj hin => ?_).symm
    by_cases hm : Merged P nt ops bs st κ j
    · exact hm
    · exact absurd (V.dead j k b hj hm) hl
theorem Inv.part (D : DR P nt ops bs E nx0 st out) (V : Inv P σ nt ops bs nx0 st out ρ0 h0 w0 ds l κ g ρ a w) {m s : Nat} (hs : s ≤ ops.size) (hp : ∀ e ∈ (st s).pool, bit m e.op = true → In l e.op ∧ ¬ Merged P nt ops bs st κ e.op) :
    Rel P.globals.size ρ σ (withPool m (st s).pool (st κ).h) w := by
  refine V.rel.sub (V.sub D hs hp) withPool_nx fun k hk hm => ?_
  rcases withPool_get (m := m) (h := (st κ).h) hm (D.pool_id hs) with ⟨e, he, hb, hid, hv⟩ | ⟨hno, hv⟩
  · have h3 := (((D.pool hs e.op e.id e.blk).1 he).1.lt_nx D).2.1
    have := V.low
    omega
  · rw [hv, ← V.rest k hm fun j b hj hin => by
      have := (hj.lt_nx D).2.1
      have := V.low
      omega]
    exact V.rel.dead k hk hm
theorem Inv.stageRel (D : DR P nt ops bs E nx0 st out) (V : Inv P σ nt ops bs nx0 st out ρ0 h0 w0 ds l κ g ρ a w) : Rel P.globals.size ρ σ (st κ).h w := by
  have := V.part D (m := 0) (s := 0) (Nat.zero_le _) (by rw [D.pool0]; simp)
  rw [D.pool0] at this
  exact this

theorem Inv.alloc (D : DR P nt ops bs E nx0 st out) (V : Inv P σ nt ops bs nx0 st out ρ0 h0 w0 ds l κ g ρ a w) (hn0 : h0.nx = nx0) {i : Nat} {o : Oper} (U : Up ops bs l i o) {id : Nat} {b : Blk} (hA : AllocAt P nt ops nx0 st out i id b)
    {w' : World} {obj : Obj} {p : Place} {x : Value} (hp : p.blk = w.heap.size) (hw : w'.heap = w.heap.push obj) (hos : w'.os = w.os) (ht : w'.tape = w.tape) (hout : w'.output = w.output)
    (hb : BRel (ρ.put id p) σ p (some obj) b) (hx : con (ρ.put id p) σ (out i) = some x) :
    Inv P σ nt ops bs nx0 st out ρ0 h0 w0 ds (l.setIfInBounds i true) κ (fun k => if k = id then b else g k) (ρ.put id p) (a.put o.dst x) w' := by
  have hil : i < l.size := by rw [V.size]; exact DR.lt U.at_
  have hnone := V.unset i id b hA U.not
  have hid := hA.lt_nx D
  have hlow := V.low
  have hL : ¬ LoudAt P nt ops st i := by
    rintro ⟨o', f, ho', hop, _⟩
    obtain ⟨o2, f2, ho2, hop2, _⟩ := hA
    rw [ho'] at ho2; cases ho2
    rw [hop] at hop2; cases hop2
  refine ⟨by simpa using V.size, V.closed' D U, ?_, V.kle, ?_, ?_, V.rel.alloc (by omega) hnone hp hb hw, V.fr.alloc (by omega) hp hw hos ht hout, ?_, V.dead, V.low, V.put D U (Rho.le_put hnone) hx, by rw [put_defers]; exact V.dfr⟩
  · intro j hj
    rw [In.set hil, ← V.stage j hj]
    constructor
    · rintro (rfl | h)
      · exact absurd hj hL
      · exact h
    · exact .inr
  · intro j id' b' hj hin hm
    rw [In.set hil] at hin
    rcases hin with rfl | hin
    · have h1 := hj.id_eq.1
      have h2 := hA.id_eq.1
      have : id' = id := by omega
      subst this
      rw [if_pos rfl]; exact (hA.inj hj).2
    · have : id' ≠ id := by
        intro e; subst e
        exact U.not (by rw [(hA.inj hj).1]; exact hin)
      rw [if_neg this]
      exact V.pooled j id' b' hj hin hm
  · intro k hk hall
    have : k ≠ id := by
      intro e; subst e
      exact V.fresh U.not (hall i b hA ((In.set hil).2 (.inl rfl)))
    rw [if_neg this]
    exact V.rest k hk fun j b hj hin => hall j b hj ((In.set hil).2 (.inr hin))
  · intro j id' b' hj hn
    have hne : id' ≠ id := by
      intro e; subst e
      exact hn (by rw [← (hA.inj hj).1]; exact (In.set hil).2 (.inl rfl))
    unfold Rho.put
    rw [if_neg hne]
    exact V.unset j id' b' hj fun h => hn ((In.set hil).2 (.inr h))

/-- the stage at a loud operation -/
theorem Inv.atLoud (D : DR P nt ops bs E nx0 st out) (V : Inv P σ nt ops bs nx0 st out ρ0 h0 w0 ds l κ g ρ a w) {i : Nat} {o : Oper} (U : Up ops bs l i o) (hi : LoudAt P nt ops st i) :
    (∀ k, LoudAt P nt ops st k → (k < κ ↔ k < i)) ∧ (st i).h = (st κ).h ∧ ∀ j, Merged P nt ops bs st κ j ↔ Merged P nt ops bs st i j := by
  have h1 : ∀ k, LoudAt P nt ops st k → (k < κ ↔ k < i) := by
    intro k hk
    rw [← V.stage k hk]
    constructor
    · intro hin
      rcases Nat.lt_trichotomy k i with h | h | h
      · exact h
      · subst h; exact absurd hin U.not
      · exact absurd (V.closed k hk.lt hin i (D.elder hk hi h)) U.not
    · intro hlt
      exact U.elder k (D.elder hi hk hlt)
  refine ⟨h1, ?_, ?_⟩
  · rcases Nat.le_total κ i with h | h
    · exact D.span h (Nat.le_of_lt hi.lt) fun k h2 h3 hk => by have := (h1 k hk).2 h3; omega
    · exact (D.span h V.kle fun k h2 h3 hk => by have := (h1 k hk).1 h3; omega).symm
  · intro j
    constructor
    · rintro ⟨m, h2, h3, h4, h5⟩; exact ⟨m, (h1 m h4).1 h2, h3, h4, h5⟩
    · rintro ⟨m, h2, h3, h4, h5⟩; exact ⟨m, (h1 m h4).2 h2, h3, h4, h5⟩
theorem Inv.loudPart (D : DR P nt ops bs E nx0 st out) (V : Inv P σ nt ops bs nx0 st out ρ0 h0 w0 ds l κ g ρ a w) {i : Nat} {o : Oper} (U : Up ops bs l i o) (hi : LoudAt P nt ops st i) :
    (∀ e ∈ (st i).pool, bit (bs.getD i 0) e.op = true → In l e.op ∧ ¬ Merged P nt ops bs st κ e.op) := by
  intro e he hb
  refine ⟨U.elder _ hb, ?_⟩
  rw [(V.atLoud D U hi).2.2]
  exact ((D.pool (Nat.le_of_lt hi.lt) e.op e.id e.blk).1 he).2.2
open Classical in
theorem Inv.loud (D : DR P nt ops bs E nx0 st out) (V : Inv P σ nt ops bs nx0 st out ρ0 h0 w0 ds l κ g ρ a w) {i : Nat} {o : Oper} (U : Up ops bs l i o) (hi : LoudAt P nt ops st i)
    {ρ' : Rho} {w' : World} {x : Value} (X : Ext P.globals.size σ ρ (withPool (bs.getD i 0) (st i).pool (st i).h) w ρ' (st (i + 1)).h w') (hx : con ρ' σ (out i) = some x) :
    ∃ g', Inv P σ nt ops bs nx0 st out ρ0 h0 w0 ds (l.setIfInBounds i true) (i + 1) g' ρ' (a.put o.dst x) w' := by
  have hil : i < l.size := by rw [V.size]; exact hi.lt
  obtain ⟨hst, hmem, hmg⟩ := V.atLoud D U hi
  have hisz : i ≤ ops.size := Nat.le_of_lt hi.lt
  have hA : ∀ id b, ¬ AllocAt P nt ops nx0 st out i id b := by
    rintro id b ⟨o', f, ho', hop, _⟩
    obtain ⟨o2, f2, ho2, hop2, _⟩ := hi
    rw [ho'] at ho2; cases ho2
    rw [hop] at hop2; cases hop2
  rw [hmem] at X
  have hs := V.sub D hisz (V.loudPart D U hi)
  have hR := V.part D hisz (V.loudPart D U hi)
  have hle := X.le hR
  have hnx : (withPool (bs.getD i 0) (st i).pool (st κ).h).nx = (st κ).h.nx := withPool_nx
  have hlow := V.low
  -- what is not merged then lies outside
  have hout : ∀ j id b, AllocAt P nt ops nx0 st out j id b → ¬ Merged P nt ops bs st (i + 1) j → hget (withPool (bs.getD i 0) (st i).pool (st κ).h) id = .dead := by
    intro j id b hj hm
    rcases withPool_get (m := bs.getD i 0) (h := (st κ).h) (hj.lt_nx D).2.2 (D.pool_id hisz) with ⟨e, he, hb, hid, hv⟩ | ⟨hno, hv⟩
    · have h3 := ((D.pool hisz e.op e.id e.blk).1 he).1
      rw [hid] at h3
      have : e.op = j := (h3.inj hj).1
      rw [this] at hb
      exact absurd ⟨i, by omega, D.rok.ahead i hi.lt j hb, hi, hb⟩ hm
    · rw [hv]
      exact V.dead j id b hj fun h => hm (((hmg j).1 h).up (by omega))
  let T : Nat → Prop := fun k => ∃ j b, AllocAt P nt ops nx0 st out j k b ∧ In l j ∧ ¬ Merged P nt ops bs st (i + 1) j
  have hT : ∀ k, T k → k < (st κ).h.nx ∧ hget (withPool (bs.getD i 0) (st i).pool (st κ).h) k = .dead := by
    rintro k ⟨j, b, hj, hin, hm⟩
    exact ⟨by have := (hj.lt_nx D).2.1; omega, hout j k b hj hm⟩
  refine ⟨fun k => if T k then g k else hget (st (i + 1)).h k, by simpa using V.size, V.closed' D U, ?_, hi.lt, ?_, ?_, V.rel.over hs hnx X T hT, FrF.over V.rel V.fr hs hnx X T hT V.rel.nxle, ?_, ?_, ?_, V.put D U hle hx, by rw [put_defers]; exact V.dfr⟩
  · intro k hk
    rw [In.set hil, V.stage k hk, hst k hk]
    omega
  · intro j id b hj hin hm
    rw [In.set hil] at hin
    rcases hin with rfl | hin
    · exact absurd hj (hA id b)
    · rw [if_pos ⟨j, b, hj, hin, hm⟩]
      exact V.pooled j id b hj hin fun h => hm (((hmg j).1 h).up (by omega))
  · intro k hk hall
    rw [if_neg]
    rintro ⟨j, b, hj, hin, hm⟩
    exact hm (hall j b hj ((In.set hil).2 (.inr hin)))
  · intro j id b hj hn
    rw [X.fr.old id (by rw [hnx]; have := (hj.lt_nx D).2.1; omega)]
    exact V.unset j id b hj fun h => hn ((In.set hil).2 (.inr h))
  · intro j id b hj hm
    exact X.fr.dead id (by rw [hnx]; have := (hj.lt_nx D).2.1; omega) (hout j id b hj hm)
  · have := X.fr.nx
    omega
/-- what a reading reads -/
theorem Inv.read (D : DR P nt ops bs E nx0 st out) (V : Inv P σ nt ops bs nx0 st out ρ0 h0 w0 ds l κ g ρ a w) {i : Nat} {o : Oper} (U : Up ops bs l i o) {f : Rg → AH → R1} (hop : cOp P nt o = .read f) (hg : Goes ops nt o (st i).r) :
    ∃ h, f (st i).r h = .ok (out i) ∧ Rel P.globals.size ρ σ h w := by
  obtain ⟨h1, h2, h3⟩ := D.log U.at_ hop hg
  have hi := DR.lt U.at_
  have hnl : ¬ LoudAt P nt ops st i := by
    rintro ⟨o', f', ho', hop', _⟩
    rw [U.at_] at ho'; cases ho'
    rw [hop] at hop'; cases hop'
  rcases Nat.le_total κ i with hκ | hκ
  · obtain ⟨c, hc, hcase⟩ := D.behind (κ := κ) (i := i) (Nat.le_of_lt hi) (fun k h4 h5 hk => by
      cases hb : bit (bs.getD i 0) k with
      | false => rfl
      | true => have := (V.stage k hk).1 (U.elder k hb); omega) hκ (Nat.le_refl i)
    refine ⟨withPool (bs.getD i 0) (st i).pool (st κ).h, ?_, V.part D (Nat.le_of_lt hi) fun e he hb => ⟨U.elder _ hb, fun hm => ((D.pool (Nat.le_of_lt hi) e.op e.id e.blk).1 he).2.2 (hm.up hκ)⟩⟩
    rcases hcase with ⟨_, hh⟩ | ⟨c', rfl, hh⟩
    · rw [← hh]; exact h1
    · exact sameIn_spec h2 c' (by unfold nOf louds; omega) _ hh
  · have key : ∀ k, i ≤ k → k ≤ κ → ∃ s, s ≤ ops.size ∧ f (st i).r (withPool (bs.getD i 0) (st s).pool (st k).h) = .ok (out i) ∧ ∀ e ∈ (st s).pool, ¬ Merged P nt ops bs st k e.op := by
      intro k
      induction k with
      | zero =>
        intro h4 _
        have : i = 0 := by omega
        subst this
        exact ⟨0, Nat.zero_le _, h1, fun e he => ((D.pool (Nat.zero_le _) e.op e.id e.blk).1 he).2.2⟩
      | succ k ih =>
        intro h4 h5
        rcases Nat.lt_or_ge i (k + 1) with h6 | h6
        · have hk : k < ops.size := by have := V.kle; omega
          obtain ⟨s, hs, e1, e2⟩ := ih (by omega) (by omega)
          by_cases hL : LoudAt P nt ops st k
          · have hne : k ≠ i := fun e => hnl (by rw [← e]; exact hL)
            have hin := (V.stage k hL).2 (by omega)
            have hb : bit (bs.getD k 0) i = false := by
              cases hb : bit (bs.getD k 0) i with
              | false => rfl
              | true => exact absurd (V.closed k hk hin i hb) U.not
            obtain ⟨o', f', ho', hop', hg'⟩ := hL
            obtain ⟨_, _, hag, _, hp, _⟩ := D.loud ho' hop' hg'
            refine ⟨k + 1, hk, ?_, fun e he => ((D.pool (k := k + 1) hk e.op e.id e.blk).1 he).2.2⟩
            rw [hp]
            exact again_spec hag _ (h3 k (by omega) (Nat.le_of_lt hk)) hb
          · refine ⟨s, hs, ?_, fun e he => ?_⟩
            · rw [(D.calm hk hL).1]; exact e1
            · rw [D.nomerge hL]; exact e2 e he
        · have : i = k + 1 := by omega
          subst this
          exact ⟨k + 1, Nat.le_of_lt hi, h1, fun e he => ((D.pool (Nat.le_of_lt hi) e.op e.id e.blk).1 he).2.2⟩
    obtain ⟨s, hs, e1, e2⟩ := key κ hκ (Nat.le_refl _)
    exact ⟨_, e1, V.part D hs fun e he hb => ⟨U.elder _ hb, e2 e he⟩⟩
end
end Go.Proofs.YteahdpjeoeeemaaGreatDoor.Ax

namespace Go.Proofs.YteahdpjeoeeemaaGreatDoor.Ax
set_option linter.unusedVariables false
set_option linter.unusedSimpArgs false
set_option linter.unnecessarySimpa false

section
variable {P : Program} {σ : Nat → ByteArray} {nt : Nat} {ops : Array Oper} {bs : List Nat} {E : Env} {nx0 : Nat} {st : Nat → DS} {out : Nat → AV}

theorem cOp_defer {o : Oper} {c : Call} (h : o.op = .defer c) : (∃ g, cOp P nt o = .dfr g) ∨ cOp P nt o = .none := by
  unfold cOp
  cases okOper P nt o with
  | false => exact .inr rfl
  | true =>
    show (∃ g, cOp0 P o = .dfr g) ∨ cOp0 P o = .none
    unfold cOp0
    rw [h]
    simp only
    split
    · exact .inl ⟨_, rfl⟩
    · exact .inr rfl
theorem opd_names {o : Oper} (hne : cOp P nt o ≠ .none) : ∀ t ∈ o.op.operands.toList.flatMap opdT, t < nt ∧ t ∈ namesOf ops o := by
  intro t ht
  refine ⟨?_, ?_⟩
  · unfold cOp at hne
    cases h : okOper P nt o with
    | false => rw [h] at hne; exact absurd rfl hne
    | true =>
      unfold okOper at h
      rw [Bool.and_eq_true] at h
      obtain ⟨x, hx, hxt⟩ := List.mem_flatMap.1 ht
      have := List.all_eq_true.1 h.1 x hx
      cases x with
      | tmp t' =>
        have : t = t' := by simpa [opdT] using hxt
        subst this
        have h2 : okOpd P nt (.tmp t) = true := List.all_eq_true.1 h.1 (.tmp t) hx
        simpa [okOpd, blt_dec] using h2
      | const v => cases hxt
      | global g => cases hxt
      | func f => cases hxt
  · unfold namesOf
    rw [catX_eq, catX_eq]
    exact List.mem_append.2 (.inr (List.mem_append.2 (.inr ht)))
theorem guard_names {o : Oper} {j t : Nat} {want : Bool} (hg : o.guard = some (j, want)) (ht : (ops[j]?).bind (·.dst) = some t) : t ∈ namesOf ops o := by
  unfold namesOf guardT
  rw [hg]
  simp only [ht, catX_eq]
  exact List.mem_append.2 (.inr (List.mem_append.2 (.inl (by simp))))

variable {ρ0 : Rho} {h0 : AH} {w0 : World} {ds : List Deferred} {l : Array Bool} {κ : Nat} {g : Nat → Blk} {ρ : Rho} {a : Act} {w : World}

theorem op_ok (D : DR P nt ops bs E nx0 st out) (hE : EnvOk P σ ρ0 E) (hR0 : Rel P.globals.size ρ0 σ h0 w0) (V : Inv P σ nt ops bs nx0 st out ρ0 h0 w0 ds l κ g ρ a w) (hn0 : h0.nx = nx0) {i : Nat} (hi : i ∈ Region.ready .any ops l)
    {q : Option Nat} {n : Nat} {Q : Exit → Act → World → Prop} {K : Act → World → Prop}
    (hK : ∀ κ' g' ρ' a' w', Inv P σ nt ops bs nx0 st out ρ0 h0 w0 ds (l.setIfInBounds i true) κ' g' ρ' a' w' → K a' w') : wpOpIn (rnd q) n P ops Q i K a w := by
  obtain ⟨o, U⟩ := V.up D hi
  have hsm := D.small
  unfold wpOpIn
  rw [U.at_]
  simp only
  obtain ⟨_, _, hstep⟩ := D.step i o U.at_
  -- the guard
  have hguard : ∀ t want j, o.guard = some (j, want) → (ops[j]?).bind (·.dst) = some t → t < nt → ∀ b, onBool ((cOpd (.tmp t)).run (st i).r) (fun b => sw b want (notB want)) false = b → Region.wanted o (yielded ops a.tmps) = b := by
    intro t want j hg ht htn b hb
    rw [wanted_some hg, ← guard_val V.reg htn ht, ← hb]
    have : (cOpd (.tmp t)).run (regF (dstAt ops) out (fun k => l.getD k false) (st 0).r ops.size) = (cOpd (.tmp t)).run (st i).r := by
      rw [cOpd_tmp, cOpd_tmp]
      exact V.agree D U (guard_names hg ht) (Nat.lt_of_lt_of_le htn hsm)
    rw [this]
  have hgoes : Goes ops nt o (st i).r → Region.wanted o (yielded ops a.tmps) = true := by
    rintro (hg | ⟨t, want, j, hg, ht, htn, hb⟩)
    · exact wanted_none hg
    · exact hguard t want j hg ht htn _ hb
  have hagree : cOp P nt o ≠ .none → Agree (o.op.operands.toList.flatMap opdT) (regF (dstAt ops) out (fun k => l.getD k false) (st 0).r ops.size) (st i).r := by
    intro hne t ht
    obtain ⟨h1, h2⟩ := opd_names (ops := ops) hne t ht
    exact V.agree D U h2 (Nat.lt_of_lt_of_le h1 hsm)
  have hle : ρ0.le ρ := V.fr.le hR0
  have hnd : ∀ x, cOp P nt o = x → (∀ g, x ≠ .dfr g) → x ≠ .none → ∀ c, o.op ≠ .defer c := by
    intro x hx h1 h2 c hc
    rcases cOp_defer (P := P) (nt := nt) hc with ⟨g, hg⟩ | hg
    · exact h1 g (by rw [← hx, hg])
    · exact h2 (by rw [← hx, hg])
  obtain ⟨hk, _⟩ := cOp_ok (P := P) (σ := σ) (nt := nt) (o := o)
  obtain ⟨hdep, _⟩ := cOp_dep (P := P) (nt := nt) (o := o)
  cases hstep with
  | skip hs hout _ _ =>
    obtain ⟨t, want, j, hg, ht, htn, hb⟩ := hs
    rw [hguard t want j hg ht htn _ hb, if_neg (by simp)]
    refine ⟨fun _ _ => trivial, ?_⟩
    refine hK κ g ρ _ w (V.quiet D U ?_ ?_ (by rw [hout]; exact con_undef))
    · rintro ⟨o', f, ho', _, hgo⟩
      rw [U.at_] at ho'; cases ho'
      exact goes_skips hgo ⟨t, want, j, hg, ht, htn, hb⟩
    · rintro id b ⟨o', f, ho', _, hgo, _⟩
      rw [U.at_] at ho'; cases ho'
      exact goes_skips hgo ⟨t, want, j, hg, ht, htn, hb⟩
  | pure f hg hop hf _ _ =>
    have hop : cOp P nt o = .pure f := hop
    rw [hgoes hg, if_pos rfl]
    refine ⟨fun _ _ => trivial, ?_⟩
    rw [show (rnd q).round = q from rfl, semAt_plain (.inr (hnd _ hop (by simp) (by simp)))]
    have hag := hagree (by rw [hop]; simp)
    rw [hop] at hk hdep
    obtain ⟨x, hx, hc⟩ := hk ρ _ w _ a _ ⟨V.stageRel D, V.reg⟩ ((hdep _ _ hag).trans hf)
    rw [hx, Oper.uponIn_value]
    refine hK κ g ρ _ w (V.quiet D U ?_ ?_ hc)
    · rintro ⟨o', f', ho', hop', _⟩
      rw [U.at_] at ho'; cases ho'
      rw [hop] at hop'; cases hop'
    · rintro id b ⟨o', f', ho', hop', _⟩
      rw [U.at_] at ho'; cases ho'
      rw [hop] at hop'; cases hop'
  | read f hg hop hf _ _ _ =>
    have hop : cOp P nt o = .read f := hop
    rw [hgoes hg, if_pos rfl]
    refine ⟨fun _ _ => trivial, ?_⟩
    rw [show (rnd q).round = q from rfl, semAt_plain (.inr (hnd _ hop (by simp) (by simp)))]
    have hag := hagree (by rw [hop]; simp)
    obtain ⟨h, hfh, hR⟩ := V.read D U hop hg
    rw [hop] at hk hdep
    obtain ⟨x, hx, hc⟩ := hk ρ h w _ a _ ⟨hR, V.reg⟩ ((hdep _ _ hag h).trans hfh)
    rw [hx, Oper.uponIn_value]
    refine hK κ g ρ _ w (V.quiet D U ?_ ?_ hc)
    · rintro ⟨o', f', ho', hop', _⟩
      rw [U.at_] at ho'; cases ho'
      rw [hop] at hop'; cases hop'
    · rintro id b ⟨o', f', ho', hop', _⟩
      rw [U.at_] at ho'; cases ho'
      rw [hop] at hop'; cases hop'
  | alloc f b hg hop hf _ _ _ _ =>
    have hop : cOp P nt o = .alloc f := hop
    rw [hgoes hg, if_pos rfl]
    refine ⟨fun _ _ => trivial, ?_⟩
    rw [show (rnd q).round = q from rfl, semAt_plain (.inr (hnd _ hop (by simp) (by simp)))]
    have hag := hagree (by rw [hop]; simp)
    have hA : AllocAt P nt ops nx0 st out i (nx0 + rkOf P nt ops i) b := ⟨o, f, U.at_, hop, hg, rfl, hf⟩
    rw [hop] at hk hdep
    obtain ⟨x, w', obj, p, hx, h1, h2, h3, h4, h5, h6⟩ := hk ρ _ w _ a (nx0 + rkOf P nt ops i) _ b ⟨V.stageRel D, V.reg⟩ ((hdep _ _ hag _).trans hf)
    obtain ⟨hb, hc⟩ := h6 (ρ.put _ p) (Rho.le_put (V.unset i _ b hA U.not)) (Rho.put_same ..)
    rw [hx, Oper.uponIn_value]
    exact hK κ _ _ _ w' (V.alloc D hn0 U hA h5 h1 h2 h3 h4 hb hc)
  | loud f hg hop hfine hf _ _ _ _ =>
    have hop : cOp P nt o = .loud f := hop
    rw [hgoes hg, if_pos rfl]
    refine ⟨fun _ _ => trivial, ?_⟩
    rw [show (rnd q).round = q from rfl, semAt_plain (.inr (hnd _ hop (by simp) (by simp)))]
    have hag := hagree (by rw [hop]; simp)
    have hL : LoudAt P nt ops st i := ⟨o, f, U.at_, hop, hg⟩
    have hmem := (V.atLoud D U hL).2.1
    have hR := V.part D (Nat.le_of_lt hL.lt) (V.loudPart D U hL)
    rw [← hmem] at hR
    rw [hop] at hk hdep
    exact hk E ρ _ w _ a _ _ (hE.up hle) ⟨hR, V.reg⟩ ((hdep _ _ hag E _).trans hf) q n K Q fun ρ' w' x X hc => by
      obtain ⟨g', V'⟩ := V.loud D U hL X hc
      exact hK _ g' ρ' _ w' V'

def left (l : Array Bool) (n : Nat) : Nat := ((List.range n).filter fun k => !l.getD k false).length
theorem left_set {l : Array Bool} {i n : Nat} (hi : i < n) (hil : i < l.size) (hn : ¬ In l i) : left (l.setIfInBounds i true) n < left l n := by
  unfold left
  have h1 : ((List.range n).filter fun k => !(l.setIfInBounds i true).getD k false) = ((List.range n).filter fun k => !l.getD k false).filter fun k => !decide (k = i) := by
    rw [List.filter_filter]
    apply List.filter_congr
    intro k _
    have := In.set (l := l) (i := i) (j := k) hil
    unfold In at this
    cases h1 : (l.setIfInBounds i true).getD k false with
    | true =>
      rcases this.1 h1 with h2 | h2
      · simp [h2]
      · simp [h2]
    | false =>
      have h3 : ¬ (k = i ∨ l.getD k false = true) := fun h => by rw [this.2 h] at h1; cases h1
      have h4 : k ≠ i := fun h => h3 (.inl h)
      have h5 : l.getD k false = false := by
        cases h : l.getD k false with
        | false => rfl
        | true => exact absurd (.inr h) h3
      simp [h4, h5]
  rw [h1]
  refine List.length_filter_lt_length_iff_exists.2 ⟨i, ?_, by simp⟩
  rw [List.mem_filter, List.mem_range]
  refine ⟨hi, ?_⟩
  unfold In at hn
  simpa using hn
theorem any_ok (D : DR P nt ops bs E nx0 st out) (hE : EnvOk P σ ρ0 E) (hR0 : Rel P.globals.size ρ0 σ h0 w0) (hn0 : h0.nx = nx0) {q : Option Nat} {n : Nat} {Q : Exit → Act → World → Prop}
    (hQ : ∀ l κ g ρ a w, Inv P σ nt ops bs nx0 st out ρ0 h0 w0 ds l κ g ρ a w → (∀ i, i < ops.size → In l i) → Q .normal a w) :
    ∀ (fuel : Nat) (l : Array Bool) (κ : Nat) (g : Nat → Blk) (ρ : Rho) (a : Act) (w : World), Inv P σ nt ops bs nx0 st out ρ0 h0 w0 ds l κ g ρ a w → left l ops.size ≤ fuel → wpAnyIn (rnd q) n P .any ops Q fuel l a w
  | 0, l, κ, g, ρ, a, w, V, hf => by
    have hall : ∀ i, i < ops.size → In l i := by
      intro i hi
      have hnil := List.eq_nil_of_length_eq_zero (Nat.le_zero.1 hf)
      cases h : l.getD i false with
      | true => exact h
      | false =>
        have : i ∈ (List.range ops.size).filter fun k => !l.getD k false := by
          rw [List.mem_filter, List.mem_range]
          exact ⟨hi, by rw [h]; rfl⟩
        rw [hnil] at this; cases this
    refine ⟨?_, hQ l κ g ρ a w V hall⟩
    cases hr : Region.ready .any ops l with
    | nil => rfl
    | cons i t =>
      obtain ⟨o, ho, hn, _⟩ := (ready_iff V.size).1 (show i ∈ Region.ready .any ops l by rw [hr]; simp)
      exact absurd (hall i (DR.lt ho)) hn
  | fuel + 1, l, κ, g, ρ, a, w, V, hf => by
    refine ⟨?_, ?_⟩
    · intro hr
      refine hQ l κ g ρ a w V ?_
      intro i
      induction i using Nat.strongRecOn with
      | _ i ih =>
        intro hi
        by_cases hin : In l i
        · exact hin
        · have ho : ops[i]? = some ops[i] := by simp [hi]
          have : i ∈ Region.ready .any ops l := (ready_iff V.size).2 ⟨ops[i], ho, hin, fun e he hb => by
            have h1 := D.rok.edge i _ ho e he hb
            have h2 := D.rok.ahead i hi e.on h1
            exact ih e.on h2 (by omega)⟩
          rw [hr] at this; cases this
    · intro i hi
      obtain ⟨o, U⟩ := V.up D hi
      refine op_ok D hE hR0 V hn0 hi fun κ' g' ρ' a' w' V' => ?_
      refine any_ok D hE hR0 hn0 hQ fuel _ κ' g' ρ' a' w' V' ?_
      have := left_set (l := l) (i := i) (n := ops.size) (DR.lt U.at_) (by rw [V.size]; exact DR.lt U.at_) U.not
      omega

/-- a region whose order is drawn -/
theorem draw_ok (hm : P.follows .mixedOrders = true) (hE : EnvOk P σ ρ0 E) {r r' : Rg} {a : Act} {h' : AH} {e : AEx} (S : St P σ nt ρ0 h0 w0 r a) (ev : (cDraw P nt ops).run E r h0 = .ok e r' h') {q : Option Nat} {n id : Nat} {Q : Exit → Act → World → Prop}
    (hQ : ∀ (ρ1 : Rho) (w1 : World) (a1 : Act), Ext P.globals.size σ ρ0 h0 w0 ρ1 h' w1 → St P σ nt ρ1 h' w1 r' a1 → Q (exOf e) a1 w1) : (Code.region id ops true).wpIn (rnd q) n P Q a w0 := by
  refine wpIn_region_any hm ?_
  unfold cDraw at ev
  simp only at ev
  cases hok : okRegion ops (befs ops.toList []) with
  | false => rw [hok] at ev; cases ev
  | true =>
  rw [hok] at ev
  have rok := okRegion_ok hok
  generalize hbs : befs ops.toList [] = bs at ev rok
  obtain ⟨hfit, e1⟩ := sw_inv (show sw (Nat.ble (Nat.add h0.nx (naOf P nt ops)) most) (onXD ((cOpsD P nt ops bs (infos P nt ops bs)).run E h0.nx ⟨r, ⟨h0.hp, Nat.add h0.nx (naOf P nt ops)⟩, [], [], []⟩) (fun d => onDS d (fun r' h' _ pool _ => XR.ok .normal r' (allPool pool h'))) .no) .no = .ok e r' h' from ev) (by simp)
  have hfit : h0.nx + naOf P nt ops ≤ most := Nat.le_of_ble_eq_true hfit
  obtain ⟨d2, hd2, e2⟩ := onXD_inv e1 (by simp)
  obtain ⟨st, out, hst0, hstN, hsteps⟩ := trace _ _ _ hd2
  obtain ⟨hlen, hinf⟩ := infos_get (P := P) (nt := nt) rok.len
  rw [hlen] at hstN
  have D : DR P nt ops bs E h0.nx st out := ⟨rok, fun i o ho => hsteps i _ (hinf i o ho), S.reg.small, by rw [hst0], by rw [hst0], by rw [hst0], hfit⟩
  have hh0 : (st 0).h = ⟨h0.hp, h0.nx + naOf P nt ops⟩ := by rw [hst0]; rfl
  have hg0 : ∀ k, hget (st 0).h k = hget h0 k := fun k => by rw [hh0]; rfl
  have hgf : hget (st 0).h = hget h0 := funext hg0
  have hnx : (st 0).h.nx = h0.nx + naOf P nt ops := by rw [hh0]
  have hno : ∀ i, ¬ In (Array.replicate ops.size false) i := by
    intro i hin
    unfold In at hin
    rw [Array.getD_eq_getD_getElem?, Array.getElem?_replicate] at hin
    split at hin <;> simp at hin
  have hnm : ∀ j, ¬ Merged P nt ops bs st 0 j := by rintro j ⟨m, h1, _⟩; omega
  have hr0 : (st 0).r = r := by rw [hst0]
  have V : Inv P σ nt ops bs h0.nx st out ρ0 h0 w0 a.defers (Array.replicate ops.size false) 0 (hget h0) ρ0 a { w0 with drawn := w0.drawn + 1 } := by
    refine ⟨by simp, fun i _ hin => absurd hin (hno i), fun i _ => ⟨fun hin => absurd hin (hno i), fun h => by omega⟩, Nat.zero_le _, fun j id b _ hin => absurd hin (hno j), fun i _ _ => (hg0 i).symm, ?_, ?_, ?_, ?_, ?_, ?_, rfl⟩
    · rw [hnx]
      exact (RelF.of S.rel (Nat.le_add_right _ _) hfit).world rfl
    · rw [hnx]
      exact FrF.start (Nat.le_add_right _ _) rfl rfl rfl rfl
    · intro j id b hj _
      exact S.rel.fresh_none (hj.lt_nx D).1
    · intro j id b hj _
      rw [hg0]
      exact S.rel.dead id (hj.lt_nx D).1 (hj.lt_nx D).2.2
    · rw [hnx]; exact Nat.le_refl _
    · rw [hr0, regF_stop (i := 0) (fun k _ => by
        cases h : (Array.replicate ops.size false).getD k false with
        | false => rfl
        | true => exact absurd h (hno k)) (Nat.zero_le _)]
      exact S.reg
  refine any_ok (ds := a.defers) D hE S.rel rfl ?_ ops.size _ 0 _ ρ0 a _ V ?_
  · intro l κ g ρ a1 w1 V1 hall
    subst hstN
    have hend : e = .normal ∧ r' = (st ops.size).r ∧ h' = allPool (st ops.size).pool (st ops.size).h := by
      have e3 : XR.ok .normal (st ops.size).r (allPool (st ops.size).pool (st ops.size).h) = .ok e r' h' := e2
      cases e3; exact ⟨rfl, rfl, rfl⟩
    obtain ⟨rfl, rfl, rfl⟩ := hend
    have hlast : ∀ i, LoudAt P nt ops st i → i < κ := fun i hi => (V1.stage i hi).1 (hall i hi.lt)
    have hmem : (st ops.size).h = (st κ).h := D.span V1.kle (Nat.le_refl _) fun k h1 h2 hk => by have := hlast k hk; omega
    have hmg : ∀ j, Merged P nt ops bs st κ j → Merged P nt ops bs st ops.size j := fun j h => h.up V1.kle
    have hids := D.pool_id (Nat.le_refl ops.size)
    have hsub : Sub (allPool (st ops.size).pool (st ops.size).h) g := by
      intro k hk hl
      rcases allPool_get (h := (st ops.size).h) hk hids with ⟨e, he, hid, hv⟩ | ⟨_, hv⟩
      · rw [hv]
        obtain ⟨h3, h4, h5⟩ := (D.pool (Nat.le_refl _) e.op e.id e.blk).1 he
        rw [hid] at h3
        exact (V1.pooled e.op k e.blk h3 (hall _ h4) fun h => h5 (hmg _ h)).symm
      · rw [hv] at hl ⊢
        rw [hmem] at hl ⊢
        refine (V1.rest k hk fun j b hj hin => ?_).symm
        by_cases hm : Merged P nt ops bs st κ j
        · exact hm
        · exact absurd (V1.dead j k b hj hm) hl
    have hnx1 : (allPool (st ops.size).pool (st ops.size).h).nx = (st κ).h.nx := by rw [allPool_nx, hmem]
    have hR1 : Rel P.globals.size ρ σ (allPool (st ops.size).pool (st ops.size).h) w1 := by
      refine V1.rel.sub hsub hnx1 fun k hk hm => ?_
      have hlow := V1.low
      rcases allPool_get (h := (st ops.size).h) hm hids with ⟨e, he, hid, hv⟩ | ⟨_, hv⟩
      · have h3 := (((D.pool (Nat.le_refl _) e.op e.id e.blk).1 he).1.lt_nx D).2.1
        omega
      · rw [hv, hmem, ← V1.rest k hm fun j b hj hin => by
          have := (hj.lt_nx D).2.1
          omega]
        exact V1.rel.dead k hk hm
    have hX : Ext P.globals.size σ ρ0 h0 w0 ρ (allPool (st ops.size).pool (st ops.size).h) w1 := ⟨hR1, V1.fr.sub hsub hnx1 S.rel.nx⟩
    have hrN : (st ops.size).r = regF (dstAt ops) out (fun k => l.getD k false) (st 0).r ops.size := by
      rw [D.regs (Nat.le_refl _)]
      exact regF_same fun k hk => by
        have := hall k hk
        unfold In at this
        rw [this]; simp [hk]
    have hd : ∀ (T : Nat → Bool) (n : Nat), (regF (dstAt ops) out T (st 0).r n).d = r.d := by
      intro T n
      induction n with
      | zero => show (st 0).r.d = r.d; rw [hr0]
      | succ n ih =>
        show (if T n then (setD (dstAt ops n)).run (out n) (regF (dstAt ops) out T (st 0).r n) else regF (dstAt ops) out T (st 0).r n).d = r.d
        split
        · rw [setD_d]; exact ih
        · exact ih
    refine hQ ρ w1 a1 hX ⟨hR1, by rw [hrN]; exact V1.reg, ?_⟩
    rw [hrN, hd, V1.dfr]
    exact S.dfr.mono (hX.le S.rel)
  · unfold left
    exact Nat.le_trans (List.length_filter_le _ _) (by simp)
end
end Go.Proofs.YteahdpjeoeeemaaGreatDoor.Ax

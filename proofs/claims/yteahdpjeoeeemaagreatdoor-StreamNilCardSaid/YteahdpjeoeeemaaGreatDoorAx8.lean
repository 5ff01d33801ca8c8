/- A part of an executor of the model over an abstract memory, with the proof that what it says is what the model does: Blocks that the abstract memory does not see; memories that say less. A range over a map, whatever the order. Runs carried from a small memory, new blocks of cells and maps; functions whose body is shown by hand. A map that is made of other maps, whatever the order: set.table. set.table: the rounds and the whole. set.table: the whole. set.table: the call. -/
import Derived.Test.YteahdpjeoeeemaaGreatDoorAx7
import Derived.Maps.RangeRun
namespace Go.Proofs.YteahdpjeoeeemaaGreatDoor.Ax
set_option linter.unusedVariables false
set_option linter.unusedSimpArgs false
set_option linter.unnecessarySimpa false
open Go.ChangeMaps (setBlock)

section
variable {NG : Nat} {σ : Nat → ByteArray} {ρ ρ' : Rho} {h h' h'' : AH} {w w' : World}

/-- a block that no living number stands for -/
def Hid (ρ : Rho) (h : AH) (w : World) (c : Nat) : Prop := c < w.heap.size ∧ ∀ i p, Live h i → ρ i = some p → p.blk ≠ c
theorem Hid.ext {c : Nat} (H : Hid ρ h w c) (X : Ext NG σ ρ h w ρ' h' w') : Hid ρ' h' w' c := by
  refine ⟨Nat.lt_of_lt_of_le H.1 X.fr.size, fun i p hl hp he => ?_⟩
  rcases X.fr.new i p hl hp with h1 | ⟨j, q, hj, hq, h1⟩
  · have := H.1; omega
  · exact H.2 j q hj hq (h1.trans he)
theorem Hid.same {c : Nat} (H : Hid ρ h w c) (X : Ext NG σ ρ h w ρ' h' w') : w'.heap[c]? = w.heap[c]? := X.fr.mem c H.1 H.2
/-- such a block turned -/
theorem Hid.turn {c : Nat} (R : Rel NG ρ σ h w) (H : Hid ρ h w c) (w' : World) (hsz : w'.heap.size = w.heap.size) (hother : ∀ k, k ≠ c → w'.heap[k]? = w.heap[k]?)
    (hos : w'.os = w.os) (ht : w'.tape = w.tape) (hout : w'.output = w.output) : Rel NG ρ σ h w' := by
  refine ⟨R.nx, R.dom, R.dead, R.glob, fun i hl => ?_, R.inj⟩
  obtain ⟨p, hp, hlt, hB⟩ := R.live i hl
  exact ⟨p, hp, by omega, by rw [hother _ (H.2 i p hl hp)]; exact hB⟩

/-- the same memory, but that some blocks are given up -/
structure Wk (h h' : AH) : Prop where
  nx : h'.nx = h.nx
  get : ∀ i, i < most → hget h' i = hget h i ∨ hget h' i = .dead
theorem Wk.live (W : Wk h h') {i : Nat} (hl : Live h' i) : Live h i ∧ hget h' i = hget h i := by
  rcases W.get i hl.1 with e | e
  · exact ⟨⟨hl.1, by rw [← e]; exact hl.2⟩, e⟩
  · exact absurd e hl.2
theorem Rel.wk (R : Rel NG ρ σ h w) (W : Wk h h') : Rel NG ρ σ h' w := by
  refine ⟨by rw [W.nx]; exact R.nx, fun i p hp => by rw [W.nx]; exact R.dom i p hp, fun i hi hm => ?_, R.glob, fun i hl => ?_, fun i j p q hi hj => R.inj i j p q (W.live hi).1 (W.live hj).1⟩
  · rw [W.nx] at hi
    rcases W.get i hm with e | e
    · rw [e]; exact R.dead i hi hm
    · exact e
  · obtain ⟨h1, e⟩ := W.live hl
    obtain ⟨p, hp, hlt, hB⟩ := R.live i h1
    exact ⟨p, hp, hlt, by rw [e]; exact hB⟩
theorem Ext.wk (X : Ext NG σ ρ h w ρ' h' w') (hn : h'.nx ≤ most) (W : Wk h' h'') : Ext NG σ ρ h w ρ' h'' w' := by
  refine ⟨X.rel.wk W, X.fr.os, X.fr.tape, X.fr.output, X.fr.size, by rw [W.nx]; exact X.fr.nx, X.fr.old, fun i hi hd => ?_, X.fr.mem, fun i p hl hp => X.fr.new i p (W.live hl).1 hp⟩
  have hm : i < most := by have := X.fr.nx; omega
  rcases W.get i hm with e | e
  · rw [e]; exact X.fr.dead i hi hd
  · exact e
theorem Wk.dead (h : AH) (b : Nat) (hb : b < most) : Wk h (hput h b .dead) := by
  refine ⟨rfl, fun i hi => ?_⟩
  rw [hget_hput h b i .dead hb hi]
  by_cases e : i = b
  · rw [if_pos e]; exact .inr rfl
  · rw [if_neg e]; exact .inl rfl
theorem Wk.refl (h : AH) : Wk h h := ⟨rfl, fun _ _ => .inl rfl⟩
theorem Wk.trans (A : Wk h h') (B : Wk h' h'') : Wk h h'' := by
  refine ⟨B.nx.trans A.nx, fun i hi => ?_⟩
  rcases B.get i hi with e | e
  · rw [e]; exact A.get i hi
  · exact .inr e
/-- a living block that is given up is seen no more -/
theorem Hid.of_dead {b : Nat} {p : Place} (R : Rel NG ρ σ h w) (hl : Live h b) (hp : ρ b = some p) : Hid ρ (hput h b .dead) w p.blk := by
  obtain ⟨q, hq, hlt, _⟩ := R.live b hl
  rw [hp] at hq; cases hq
  refine ⟨hlt, fun i q hi hq he => ?_⟩
  have W := Wk.dead h b hl.1
  have := R.inj i b q p (W.live hi).1 hl hq hp he
  subst this
  exact hi.2 (by rw [hget_hput h i i .dead hl.1 hl.1, if_pos rfl])

/-! entries of a map, each with its abstract -/
theorem conKV_cons2 {k v : AV} {l : List (AV × AV)} {xs : List (Value × Value)} : conKV ρ σ ((k, v) :: l) = some xs ↔ ∃ x y t, con ρ σ k = some x ∧ con ρ σ v = some y ∧ conKV ρ σ l = some t ∧ xs = (x, y) :: t := by
  simp only [conKV]
  cases h1 : con ρ σ k with
  | none => simp
  | some x => cases h2 : con ρ σ v with
    | none => simp
    | some y => cases h3 : conKV ρ σ l with
      | none => simp
      | some t => simp [eq_comm]
theorem conKV_perm {a b : List (AV × AV)} (hp : List.Perm a b) : ∀ {xs}, conKV ρ σ a = some xs → ∃ ys, conKV ρ σ b = some ys ∧ List.Perm xs ys := by
  induction hp with
  | nil => intro xs h; exact ⟨xs, h, List.Perm.refl _⟩
  | cons e hp ih =>
    intro xs h
    obtain ⟨k, v⟩ := e
    obtain ⟨x, y, t, hx, hy, ht, rfl⟩ := conKV_cons2.1 h
    obtain ⟨u, hu, hpu⟩ := ih ht
    exact ⟨(x, y) :: u, conKV_cons2.2 ⟨x, y, u, hx, hy, hu, rfl⟩, hpu.cons _⟩
  | swap e f l =>
    intro xs h
    obtain ⟨k, v⟩ := e
    obtain ⟨k', v'⟩ := f
    obtain ⟨x', y', t, hx', hy', ht, rfl⟩ := conKV_cons2.1 h
    obtain ⟨x, y, u, hx, hy, hu, rfl⟩ := conKV_cons2.1 ht
    exact ⟨(x, y) :: (x', y') :: u, conKV_cons2.2 ⟨x, y, _, hx, hy, conKV_cons2.2 ⟨x', y', u, hx', hy', hu, rfl⟩, rfl⟩, List.Perm.swap ..⟩
  | trans _ _ ih1 ih2 =>
    intro xs h
    obtain ⟨ys, hy, p1⟩ := ih1 h
    obtain ⟨zs, hz, p2⟩ := ih2 hy
    exact ⟨zs, hz, p1.trans p2⟩
/-- a row that is another one's concrete form in another order is the concrete form of that one in another order -/
theorem conKV_lift {xs ys : List (Value × Value)} (hp : List.Perm xs ys) : ∀ {b : List (AV × AV)}, conKV ρ σ b = some ys → ∃ a, List.Perm a b ∧ conKV ρ σ a = some xs := by
  induction hp with
  | nil => intro b h; exact ⟨b, List.Perm.refl _, h⟩
  | cons e hp ih =>
    intro b h
    cases b with
    | nil => cases h
    | cons f b =>
      obtain ⟨k, v⟩ := f
      obtain ⟨x, y, t, hx, hy, ht, he⟩ := conKV_cons2.1 h
      cases he
      obtain ⟨a, pa, ha⟩ := ih ht
      exact ⟨(k, v) :: a, pa.cons _, conKV_cons2.2 ⟨x, y, _, hx, hy, ha, rfl⟩⟩
  | swap e f l =>
    intro b h
    cases b with
    | nil => cases h
    | cons g b =>
      obtain ⟨k, v⟩ := g
      obtain ⟨x, y, t, hx, hy, ht, he⟩ := conKV_cons2.1 h
      cases he
      cases b with
      | nil => cases ht
      | cons g' b =>
        obtain ⟨k', v'⟩ := g'
        obtain ⟨x', y', t', hx', hy', ht', he'⟩ := conKV_cons2.1 ht
        cases he'
        exact ⟨(k', v') :: (k, v) :: b, List.Perm.swap .., conKV_cons2.2 ⟨x', y', _, hx', hy', conKV_cons2.2 ⟨x, y, _, hx, hy, ht', rfl⟩, rfl⟩⟩
  | trans _ _ ih1 ih2 =>
    intro b h
    obtain ⟨c, pc, hc⟩ := ih2 h
    obtain ⟨a, pa, ha⟩ := ih1 hc
    exact ⟨a, pa.trans pc, ha⟩
theorem abs_entries : ∀ {es : List MapEntry} {a : List (AV × AV)}, conKV ρ σ a = some (es.map fun e => (e.key, e.val)) → (es.map (·.born)).Nodup →
    ∃ g : MapEntry → AV × AV, es.map g = a ∧ ∀ x ∈ es, con ρ σ (g x).1 = some x.key ∧ con ρ σ (g x).2 = some x.val
  | [], a, h, _ => by
    cases a with
    | nil => exact ⟨fun _ => (.bad, .bad), rfl, fun x hx => by cases hx⟩
    | cons e a => obtain ⟨k, v⟩ := e; obtain ⟨_, _, _, _, _, _, he⟩ := conKV_cons2.1 h; cases he
  | e :: es, a, h, hn => by
    cases a with
    | nil => cases h
    | cons f a =>
      obtain ⟨k, v⟩ := f
      obtain ⟨x, y, t, hx, hy, ht, he⟩ := conKV_cons2.1 h
      simp only [List.map_cons, List.cons.injEq, Prod.mk.injEq] at he
      obtain ⟨⟨rfl, rfl⟩, rfl⟩ := he
      rw [List.map_cons, List.nodup_cons] at hn
      obtain ⟨g, h1, h2⟩ := abs_entries ht hn.2
      have hne : ∀ z ∈ es, z.born ≠ e.born := fun z hz hb => hn.1 (hb ▸ List.mem_map_of_mem hz)
      refine ⟨fun z => if z.born = e.born then (k, v) else g z, ?_, ?_⟩
      · rw [List.map_cons, if_pos rfl]
        congr 1
        rw [← h1]
        exact List.map_congr_left fun z hz => by rw [if_neg (hne z hz)]
      · intro z hz
        rcases List.mem_cons.1 hz with rfl | hz
        · simp only [if_true]; exact ⟨hx, hy⟩
        · simp only [if_neg (hne z hz)]; exact h2 z hz
theorem MapOk.entries {es : Array MapEntry} {l : List (AV × AV)} {clock : Nat} (M : MapOk ρ σ es l) (B : Borns es clock) :
    ∃ g : MapEntry → AV × AV, List.Perm (es.toList.map g) l ∧ ∀ x ∈ es.toList, con ρ σ (g x).1 = some x.key ∧ con ρ σ (g x).2 = some x.val := by
  obtain ⟨kvs, h1, h2⟩ := M.perm
  obtain ⟨a, pa, ha⟩ := conKV_lift h2 h1
  obtain ⟨g, h3, h4⟩ := abs_entries ha B.2
  exact ⟨g, by rw [h3]; exact pa, h4⟩
theorem MapOk.of_perm {es : Array MapEntry} {l l' : List (AV × AV)} (M : MapOk ρ σ es l) (hp : List.Perm l l') : MapOk ρ σ es l' := by
  obtain ⟨kvs, h1, h2⟩ := M.perm
  obtain ⟨ys, h3, h4⟩ := conKV_perm hp h1
  refine ⟨⟨ys, h3, h2.trans h4⟩, fun a ha b hb => M.sort a (hp.mem_iff.2 ha) b (hp.mem_iff.2 hb), (hp.pairwise_iff (fun h => Ne.symm h)).1 M.apart⟩
/-- a map's entries may be told in any order -/
theorem Rel.map_perm {m : Nat} {l l' : List (AV × AV)} (R : Rel NG ρ σ h w) (hm : m < most) (hb : hget h m = .map l) (hp : List.Perm l l') : Rel NG ρ σ (hput h m (.map l')) w := by
  have hg : ∀ i, i < most → hget (hput h m (.map l')) i = if i = m then .map l' else hget h i := fun i hi => hget_hput h m i _ hm hi
  have hl : ∀ i, Live (hput h m (.map l')) i → Live h i := fun i hl => by
    refine ⟨hl.1, ?_⟩
    by_cases e : i = m
    · rw [e, hb]; simp
    · have := hl.2; rw [hg i hl.1, if_neg e] at this; exact this
  have hlm : Live h m := ⟨hm, by rw [hb]; simp⟩
  refine ⟨R.nx, R.dom, fun i hi him => ?_, R.glob, fun i hi => ?_, fun i j p q hi hj => R.inj i j p q (hl i hi) (hl j hj)⟩
  · have hi : h.nx ≤ i := hi
    have hne : i ≠ m := fun e => by have := R.live_lt hlm; omega
    rw [hg i him, if_neg hne]; exact R.dead i hi him
  · obtain ⟨p, hp', hlt, hB⟩ := R.live i (hl i hi)
    refine ⟨p, hp', hlt, ?_⟩
    by_cases e : i = m
    · subst e
      rw [hg i hi.1, if_pos rfl]
      rw [hb] at hB
      obtain ⟨es, clock, ho, M, B⟩ := hB
      exact ⟨es, clock, ho, M.of_perm hp, B⟩
    · rw [hg i hi.1, if_neg e]; exact hB
theorem Ext.map_perm {m : Nat} {l l' : List (AV × AV)} (X : Ext NG σ ρ h w ρ' h' w') (hm : m < most) (hb : hget h' m = .map l) (hp : List.Perm l l') : Ext NG σ ρ h w ρ' (hput h' m (.map l')) w' := by
  have R := X.rel.map_perm hm hb hp
  have hg : ∀ i, i < most → hget (hput h' m (.map l')) i = if i = m then .map l' else hget h' i := fun i hi => hget_hput h' m i _ hm hi
  have hl : ∀ i, Live (hput h' m (.map l')) i → Live h' i := fun i hl => by
    refine ⟨hl.1, ?_⟩
    by_cases e : i = m
    · rw [e, hb]; simp
    · have := hl.2; rw [hg i hl.1, if_neg e] at this; exact this
  refine ⟨R, X.fr.os, X.fr.tape, X.fr.output, X.fr.size, X.fr.nx, X.fr.old, fun i hi hd => ?_, X.fr.mem, fun i p hi hp => X.fr.new i p (hl i hi) hp⟩
  have h1 := X.fr.dead i hi hd
  have hi2 : i < most := by have := X.fr.nx; have := X.rel.nx; omega
  have hne : i ≠ m := fun e => by rw [e, hb] at h1; cases h1
  rw [hg i hi2, if_neg hne]; exact h1
end
end Go.Proofs.YteahdpjeoeeemaaGreatDoor.Ax

namespace Go.Proofs.YteahdpjeoeeemaaGreatDoor.Ax
set_option linter.unusedVariables false
set_option linter.unusedSimpArgs false
set_option linter.unnecessarySimpa false
open Go.ChangeMaps (setBlock)

section
variable {P : Program} {σ : Nat → ByteArray} {nt : Nat}

theorem Hid.wk {ρ : Rho} {h h' : AH} {w : World} {c : Nat} (H : Hid ρ h w c) (W : Wk h h') : Hid ρ h' w c := ⟨H.1, fun i p hl hp => H.2 i p (W.live hl).1 hp⟩
/-- a hidden block that is new since the base may turn -/
theorem Ext.hidden {NG : Nat} {ρ ρ1 : Rho} {h h1 : AH} {w w1 w2 : World} {c : Nat} (X : Ext NG σ ρ h w ρ1 h1 w1) (H : Hid ρ1 h1 w1 c) (hc : w.heap.size ≤ c) (hsz : w2.heap.size = w1.heap.size) (hother : ∀ k, k ≠ c → w2.heap[k]? = w1.heap[k]?)
    (hos : w2.os = w1.os) (ht : w2.tape = w1.tape) (hout : w2.output = w1.output) : Ext NG σ ρ h w ρ1 h1 w2 :=
  ⟨Hid.turn X.rel H w2 hsz hother hos ht hout, hos.trans X.fr.os, ht.trans X.fr.tape, hout.trans X.fr.output, by rw [hsz]; exact X.fr.size, X.fr.nx, X.fr.old, X.fr.dead,
    fun k hk hn => by rw [hother k (by omega)]; exact X.fr.mem k hk hn, X.fr.new⟩

/-- a region whose first operation is shown by hand -/
theorem region_hand {id : Nat} {ops : Array Oper} {o : Oper} {l : List Oper} (hl : ops.toList = o :: l) (hg : o.guard = none) (hnd : ∀ c, o.op ≠ .defer c) (hndl : ∀ o ∈ l, ∀ c, o.op ≠ .defer c)
    {E : Env} {ρ : Rho} {h h' : AH} {w w1 : World} {r1 r' : Rg} {a : Act} {x : Value} {e : AEx} {q : Option Nat} {n : Nat} {Q : Exit → Act → World → Prop}
    (hrun : (execOp a.eval o).run P w = .ok (.value x) w1) (S1 : St P σ nt ρ h w1 r1 (a.put o.dst x)) (hE : EnvOk P σ ρ E) (ev : (cOps P nt ops l).run E r1 h = .ok e r' h')
    (hQ : ∀ (ρ2 : Rho) (w2 : World) (a2 : Act), Ext P.globals.size σ ρ h w1 ρ2 h' w2 → St P σ nt ρ2 h' w2 r' a2 → Q (exOf e) a2 w2) : (Code.region id ops false).wpIn (rnd q) n P Q a w := by
  refine wpIn_region ?_
  have hsz : ops.size = l.length + 1 := by rw [← Array.length_toList, hl]; rfl
  rw [hsz, List.range_eq_range', List.range'_succ]
  have h0 : ops[0]? = some o := by rw [← Array.getElem?_toList, hl]; rfl
  simp only [wpOpsIn, h0]
  rw [wanted_none hg, if_pos rfl]
  refine ⟨fun _ _ => trivial, ?_⟩
  rw [show (rnd q).round = q from rfl, semAt_plain (.inr hnd), hrun, Oper.uponIn_value]
  exact ops_ok (ops := ops) l (0 + 1) (by rw [hl]; rfl) hE S1 (.inr hndl) ev hQ

theorem born_eq {es : List MapEntry} (hn : (es.map (·.born)).Nodup) {x y : MapEntry} (hx : x ∈ es) (hy : y ∈ es) (h : x.born = y.born) : x = y := by
  induction es with
  | nil => cases hx
  | cons e es ih =>
    rw [List.map_cons, List.nodup_cons] at hn
    rcases List.mem_cons.1 hx with hx1 | hx1
    · rcases List.mem_cons.1 hy with hy1 | hy1
      · rw [hx1, hy1]
      · rw [hx1] at h
        exact absurd (h ▸ List.mem_map_of_mem hy1) hn.1
    · rcases List.mem_cons.1 hy with hy1 | hy1
      · rw [hy1] at h
        exact absurd (h ▸ List.mem_map_of_mem hx1) hn.1
      · exact ih hn.2 hx1 hy1
theorem nodup_of_born {D : List MapEntry} (h : (D.map (·.born)).Nodup) : D.Nodup := by
  unfold List.Nodup at h ⊢
  rw [List.pairwise_map] at h
  exact h.imp fun h e => h (by rw [e])

/-- the code of a range over a map -/
structure MapLoop (P : Program) (nt : Nat) (c : Code) (bid tc tit tn te : Nat) (ops6 ops7 : Array Oper) (l6 l7 : List Oper) (c8 : Code) : Prop where
  mk' ::
  ex : ∃ (i6 i7 b3 : Nat) (oN oE : Oper), c = .seq (.region i6 ops6 false) (.seq (.cond (.tmp tc) .skip (.exit bid)) (.block b3 (.seq (.region i7 ops7 false) c8))) ∧
    ops6.toList = oN :: l6 ∧ oN.op = .next (.tmp tit) false ∧ oN.dst = some tn ∧ oN.guard = none ∧ ops7.toList = oE :: l7 ∧ oE.op = .entry (.tmp tit) ∧ oE.dst = some te ∧ oE.guard = none
  n : tn < nt
  e : te < nt
  it : tit < nt
  c : tc < nt
  d6 : ∀ o ∈ l6, ∀ c, o.op ≠ .defer c
  d7 : ∀ o ∈ l7, ∀ c, o.op ≠ .defer c
  d8 : noDefer c8 = true

theorem map_loop (hm : P.follows .mixedOrders = true) {c : Code} {bid tc tit tn te : Nat} {ops6 ops7 : Array Oper} {l6 l7 : List Oper} {c8 : Code} (C : MapLoop P nt c bid tc tit tn te ops6 ops7 l6 l7 c8) {E : Env} {k : Nat}
    {ρ0 ρ : Rho} {h0 h : AH} {w0 w : World} {r : Rg} {a : Act} (hE : EnvOk P σ ρ E)
    {es : Array MapEntry} {clock since bm ri j c0 : Nat} {g : MapEntry → AV × AV} (hold : ∀ x ∈ es.toList, x.born < since) (hnd : (es.toList.map (·.born)).Nodup) (hsc : since ≤ clock)
    (hg : ∀ x ∈ es.toList, con ρ σ (g x).1 = some x.key ∧ con ρ σ (g x).2 = some x.val) (hj : con ρ σ (.ptr j 0) = some (.pointer (some ⟨ri, 0, none⟩)))
    (Inv : List MapEntry → Rg → AH → Prop) (Fin : Rg → AH → Prop) (hit : ∀ D r h, Inv D r h → Hp.get 3 tit r.t = .ptr j 0)
    (hround : ∀ D x r h1, Inv D r h1 → (∀ y ∈ D, y ∈ es.toList) → (D.map (·.born)).Nodup → x ∈ es.toList → x ∉ D → ∃ r1 r2 r3 h2 h3 h4,
      (cOps P nt ops6 l6).run E ((setD (some tn)).run (.tup [.bool true, (g x).1, (g x).2]) r) h1 = .ok .normal r1 h1 ∧ Hp.get 3 tc r1.t = .bool true ∧ Hp.get 3 tit r1.t = .ptr j 0 ∧
      (cOps P nt ops7 l7).run E ((setD (some te)).run (.tup [(g x).1, (g x).2]) r1) h1 = .ok .normal r2 h2 ∧ (cCode P nt c8).run E k r2 h2 = .ok .normal r3 h3 ∧ Wk h3 h4 ∧ Inv (D ++ [x]) r3 h4)
    (hdone : ∀ D r h1, Inv D r h1 → List.Perm D es.toList → ∃ r1, (cOps P nt ops6 l6).run E ((setD (some tn)).run (.tup [.bool false]) r) h1 = .ok .normal r1 h1 ∧ Hp.get 3 tc r1.t = .bool false ∧ Fin r1 h1)
    (R0 : Rel P.globals.size ρ0 σ h0 w0) (X0 : Ext P.globals.size σ ρ0 h0 w0 ρ h w) (S : St P σ nt ρ h w r a) (hb : Hid ρ h w bm) (hr : Hid ρ h w ri) (hri : w0.heap.size ≤ ri) (hne : ri ≠ bm)
    (hbe : w.heap[bm]? = some (.map es clock)) (hre : w.heap[ri]? = some (.mapIter (some bm) since #[] c0)) (hc0 : since ≤ c0) (I0 : Inv [] r h)
    {q : Option Nat} {n : Nat} {Q : Exit → Act → World → Prop} (hQ : ∀ (ρ1 : Rho) (h1 : AH) (w1 : World) (r1 : Rg) (a1 : Act), Ext P.globals.size σ ρ0 h0 w0 ρ1 h1 w1 → St P σ nt ρ1 h1 w1 r1 a1 → ρ.le ρ1 → Fin r1 h1 → Q (.exit bid) a1 w1) :
    (Code.loop c).wpIn (rnd q) n P Q a w := by
  obtain ⟨i6, i7, b3, oN, oE, rfl, h6, hN, hNd, hNg, h7, hEo, hEd, hEg⟩ := C.ex
  have hnN : ∀ c, oN.op ≠ .defer c := fun c hc => by rw [hN] at hc; cases hc
  have hnE : ∀ c, oE.op ≠ .defer c := fun c hc => by rw [hEo] at hc; cases hc
  let I : Act → World → Prop := fun a1 w1 => ∃ D ρ1 h1 r1 c1, Ext P.globals.size σ ρ0 h0 w0 ρ1 h1 w1 ∧ ρ.le ρ1 ∧ St P σ nt ρ1 h1 w1 r1 a1 ∧ Hid ρ1 h1 w1 bm ∧ Hid ρ1 h1 w1 ri ∧
    w1.heap[bm]? = some (.map es clock) ∧ w1.heap[ri]? = some (.mapIter (some bm) since (D.map (·.born)).toArray c1) ∧ since ≤ c1 ∧ (∀ y ∈ D, y ∈ es.toList) ∧ (D.map (·.born)).Nodup ∧ Inv D r1 h1
  let μ : Act → World → Nat := fun _ w1 => match w1.heap[ri]? with | some (.mapIter _ _ seen _) => (leftOf es seen).size | _ => 0
  refine wpIn_loop I μ ⟨[], ρ, h, r, c0, X0, Rho.le.refl ρ, S, hb, hr, hbe, hre, hc0, (fun y hy => by cases hy), List.nodup_nil, I0⟩ ?_
  rintro a1 w1 ⟨D, ρ1, h1, r1, c1, X1, hle, S1, hb1, hr1, hbe1, hre1, hc1, hD, hDn, I1⟩
  have hev : a1.eval (.tmp tit) = .pointer (some ⟨ri, 0, none⟩) := by
    have h2 := S1.reg.reg tit C.it
    rw [hit D r1 h1 I1, con_mono hle _ _ hj] at h2
    exact (Option.some.inj h2).symm
  have hμ : μ a1 w1 = (leftOf es (D.map (·.born)).toArray).size := by show (match w1.heap[ri]? with | some (.mapIter _ _ seen _) => (leftOf es seen).size | _ => 0) = _; rw [hre1]
  refine wpIn_seq ?_
  rcases run_next_at (P := P) w1 oN.type ri bm since c1 _ es clock hre1 hbe1 hold hc1 with ⟨hz, hrun⟩ | ⟨x, hx, w2, hal, hrun⟩
  · -- nothing is left
    have hperm : List.Perm D es.toList := by
      refine (List.perm_ext_iff_of_nodup (nodup_of_born hDn) (nodup_of_born hnd)).2 fun x => ⟨hD x, fun hx => ?_⟩
      have := all_seen es _ hz x hx
      simp only [List.contains_toArray, List.contains_iff_mem, List.mem_map] at this
      obtain ⟨y, hy, e⟩ := this
      have := born_eq hnd (hD y hy) hx e
      rw [← this]; exact hy
    obtain ⟨r2, ev, hcf, hF⟩ := hdone D r1 h1 I1 hperm
    have hrun' : (execOp a1.eval oN).run P w1 = .ok (.value (.tuple #[.bool false])) w1 := by
      simp only [execOp, hN, hev]; exact run_v hrun
    have S2 : St P σ nt ρ1 h1 w1 ((setD (some tn)).run (.tup [.bool false]) r1) (a1.put oN.dst (.tuple #[.bool false])) := by
      rw [hNd]; exact S1.put (Ext.refl S1.rel) (con_tup_mk rfl) (fun d hd => by cases hd; exact C.n)
    refine region_hand h6 hNg hnN C.d6 hrun' S2 (hE.up hle) ev fun ρ3 w3 a3 X3 S3 => ?_
    refine wpIn_seq (wpIn_cond (t := false) ?_ (wpIn_exit ?_))
    · have h2 := S3.reg.reg tc C.c
      rw [hcf] at h2
      exact (Option.some.inj h2).symm
    · exact hQ ρ3 h1 w3 r2 a3 (X1.trans R0 X3) S3 (hle.trans (X3.le S1.rel)) hF
  · -- an entry
    obtain ⟨hxe, hxs⟩ := mem_left hx
    have hxD : x ∉ D := fun h => by
      have : (D.map (·.born)).toArray.contains x.born = true := by
        simp only [List.contains_toArray, List.contains_iff_mem, List.mem_map]
        exact ⟨x, h, rfl⟩
      rw [hxs] at this; cases this
    obtain ⟨r2, r3, r4, h2, h3, h4, ev6, hct, hit2, ev7, ev8, W, I2⟩ := hround D x r1 h1 I1 hD hDn hxe hxD
    obtain ⟨hk, hv⟩ := hg x hxe
    have hk1 := con_mono hle _ _ hk
    have hv1 := con_mono hle _ _ hv
    have hrun' : (execOp a1.eval oN).run P w1 = .ok (.value (.tuple #[.bool true, x.key, x.val])) (setBlock w2 ri (.mapIter (some bm) since ((D.map (·.born)).toArray.push x.born) clock)) := by
      simp only [execOp, hN, hev]; exact run_v hrun
    have hre2 : w2.heap[ri]? = some (.mapIter (some bm) since (D.map (·.born)).toArray c1) := by rcases hal with rfl | rfl <;> exact hre1
    have hset : (setBlock w2 ri (.mapIter (some bm) since ((D.map (·.born)).toArray.push x.born) clock)).heap[ri]? = some (.mapIter (some bm) since ((D.map (·.born)).toArray.push x.born) clock) ∧ ∀ k, k ≠ ri → (setBlock w2 ri (.mapIter (some bm) since ((D.map (·.born)).toArray.push x.born) clock)).heap[k]? = w2.heap[k]? := MapKept.heap_set hre2
    generalize hw3 : setBlock w2 ri (.mapIter (some bm) since ((D.map (·.born)).toArray.push x.born) clock) = w3 at hrun' hset
    have hheap : w2.heap = w1.heap := by rcases hal with rfl | rfl <;> rfl
    have hsz3 : w3.heap.size = w1.heap.size := by rw [← hw3, ← hheap]; simp [setBlock]
    have hoth3 : ∀ k, k ≠ ri → w3.heap[k]? = w1.heap[k]? := fun k hk => by rw [hset.2 k hk, hheap]
    have hos3 : w3.os = w1.os := by rw [← hw3]; rcases hal with rfl | rfl <;> rfl
    have ht3 : w3.tape = w1.tape := by rw [← hw3]; rcases hal with rfl | rfl <;> rfl
    have hout3 : w3.output = w1.output := by rw [← hw3]; rcases hal with rfl | rfl <;> rfl
    have X3 := X1.hidden hr1 hri hsz3 hoth3 hos3 ht3 hout3
    have hb3 : Hid ρ1 h1 w3 bm := ⟨by rw [hsz3]; exact hb1.1, hb1.2⟩
    have hr3 : Hid ρ1 h1 w3 ri := ⟨by rw [hsz3]; exact hr1.1, hr1.2⟩
    have hbe3 : w3.heap[bm]? = some (.map es clock) := by rw [hoth3 bm (fun e => hne e.symm)]; exact hbe1
    have S3 : St P σ nt ρ1 h1 w3 ((setD (some tn)).run (.tup [.bool true, (g x).1, (g x).2]) r1) (a1.put oN.dst (.tuple #[.bool true, x.key, x.val])) := by
      rw [hNd]
      have := reg_put (dst := some tn) (v := .tup [.bool true, (g x).1, (g x).2]) (x := .tuple #[.bool true, x.key, x.val]) S1.reg (con_tup_mk (conL_cons.2 ⟨_, _, rfl, conL_cons.2 ⟨_, _, hk1, conL_cons.2 ⟨_, _, hv1, rfl, rfl⟩, rfl⟩, rfl⟩)) (fun d hd => by cases hd; exact C.n)
      exact ⟨X3.rel, this, by rw [setD_d, put_defers]; exact S1.dfr⟩
    refine region_hand h6 hNg hnN C.d6 hrun' S3 (hE.up hle) ev6 fun ρ4 w4 a4 X4 S4 => ?_
    have hle4 := X4.le X3.rel
    refine wpIn_seq (wpIn_cond (t := true) ?_ (wpIn_skip ?_))
    · have h5 := S4.reg.reg tc C.c
      rw [hct] at h5
      exact (Option.some.inj h5).symm
    refine wpIn_block (wpIn_seq ?_)
    have hre4 : w4.heap[ri]? = some (.mapIter (some bm) since ((D.map (·.born)).toArray.push x.born) clock) := by rw [hr3.same X4]; exact hset.1
    have hbe4 : w4.heap[bm]? = some (.map es clock) := by rw [hb3.same X4]; exact hbe3
    have hev4 : a4.eval (.tmp tit) = .pointer (some ⟨ri, 0, none⟩) := by
      have h5 := S4.reg.reg tit C.it
      rw [hit2, con_mono (hle.trans hle4) _ _ hj] at h5
      exact (Option.some.inj h5).symm
    have hrun4 : (execOp a4.eval oE).run P w4 = .ok (.value (.tuple #[x.key, x.val])) w4 := by
      simp only [execOp, hEo, hev4]; exact run_v (run_entry_at w4 ri bm since _ es clock x hre4 hbe4 hxe hnd)
    have S5 : St P σ nt ρ4 h1 w4 ((setD (some te)).run (.tup [(g x).1, (g x).2]) r2) (a4.put oE.dst (.tuple #[x.key, x.val])) := by
      rw [hEd]
      exact S4.put (Ext.refl S4.rel) (con_tup_mk (conL_cons.2 ⟨_, _, con_mono hle4 _ _ hk1, conL_cons.2 ⟨_, _, con_mono hle4 _ _ hv1, rfl, rfl⟩, rfl⟩)) (fun d hd => by cases hd; exact C.e)
    refine region_hand h7 hEg hnE C.d7 hrun4 S5 (hE.up (hle.trans hle4)) ev7 fun ρ6 w6 a6 X6 S6 => ?_
    have hle6 := X6.le S4.rel
    refine code_ok hm c8 (hE.up ((hle.trans hle4).trans hle6)) S6 (.inr C.d8) ev8 fun ρ7 w7 a7 X7 S7 => ?_
    have hle7 := X7.le S6.rel
    have X36 := X4.trans X3.rel X6
    have X37 := X36.trans X3.rel X7
    have hre7 : w7.heap[ri]? = some (.mapIter (some bm) since ((D ++ [x]).map (·.born)).toArray clock) := by
      rw [hr3.same X37, hset.1]; simp
    have hbe7 : w7.heap[bm]? = some (.map es clock) := by rw [hb3.same X37]; exact hbe3
    have X07 := (X3.trans R0 X37).wk S7.rel.nx W
    have S8 : St P σ nt ρ7 h4 w7 r4 a7 := ⟨S7.rel.wk W, S7.reg, S7.dfr⟩
    refine ⟨⟨D ++ [x], ρ7, h4, r4, clock, X07, ((hle.trans hle4).trans hle6).trans hle7, S8, (hb3.ext X37).wk W, (hr3.ext X37).wk W, hbe7, hre7, hsc, ?_, ?_, I2⟩, ?_⟩
    · intro y hy
      rcases List.mem_append.1 hy with h | h
      · exact hD y h
      · rw [List.mem_singleton] at h; rw [h]; exact hxe
    · rw [List.map_append, List.nodup_append]
      refine ⟨hDn, by simp, fun b hb b' hb' e => ?_⟩
      simp only [List.map_cons, List.map_nil, List.mem_singleton] at hb'
      rw [hb'] at e
      obtain ⟨y, hy, hyb⟩ := List.mem_map.1 hb
      exact hxD ((born_eq hnd (hD y hy) hxe (hyb.trans e)) ▸ hy)
    · rw [hμ]
      show (match w7.heap[ri]? with | some (.mapIter _ _ seen _) => (leftOf es seen).size | _ => 0) < _
      rw [hre7]
      have := left_shrinks es _ x hx
      simpa using this
end
end Go.Proofs.YteahdpjeoeeemaaGreatDoor.Ax

namespace Go.Proofs.YteahdpjeoeeemaaGreatDoor.Ax
set_option linter.unusedVariables false
set_option linter.unusedSimpArgs false
set_option linter.unnecessarySimpa false

/-! registers -/
theorem g_same (t : Nat) (v : AV) (r : Rg) (ht : t < 512) : Hp.get 3 t ((setD (some t)).run v r).t = v := by
  rw [setD_get (fun x hx => by cases hx; exact ht) ht, if_pos rfl]
theorem g_ne (t u : Nat) (v : AV) (r : Rg) (ht : t < 512) (hu : u < 512) (hne : u ≠ t) : Hp.get 3 t ((setD (some u)).run v r).t = Hp.get 3 t r.t := by
  rw [setD_get (fun x hx => by cases hx; exact hu) ht, if_neg (by simpa using hne)]

section
variable {P : Program} {σ : Nat → ByteArray} {nt : Nat}
/-- a region of two operations, the second one shown by hand -/
theorem region_hand2 {id : Nat} {ops : Array Oper} {o1 o2 : Oper} (hl : ops.toList = [o1, o2]) (hg1 : o1.guard = none) (hg : o2.guard = none) (hnd1 : ∀ c, o1.op ≠ .defer c) (hnd : ∀ c, o2.op ≠ .defer c)
    {E : Env} {ρ : Rho} {h h' : AH} {w : World} {r r' : Rg} {a : Act} {q : Option Nat} {n : Nat} {Q : Exit → Act → World → Prop} (hE : EnvOk P σ ρ E) (S : St P σ nt ρ h w r a)
    (ev : (stepK (cOp P nt o1) (setD o1.dst).run (fun _ r h => .ok .normal r h)).run E r h = .ok .normal r' h')
    (hQ : ∀ (ρ1 : Rho) (w1 : World) (a1 : Act), Ext P.globals.size σ ρ h w ρ1 h' w1 → St P σ nt ρ1 h' w1 r' a1 → ∃ x w2, (execOp a1.eval o2).run P w1 = .ok (.value x) w2 ∧ Q .normal (a1.put o2.dst x) w2) : (Code.region id ops false).wpIn (rnd q) n P Q a w := by
  refine wpIn_region ?_
  have hsz : ops.size = 2 := by rw [← Array.length_toList, hl]; rfl
  rw [hsz]
  have h0 : ops[0]? = some o1 := by rw [← Array.getElem?_toList, hl]; rfl
  have h1 : ops[1]? = some o2 := by rw [← Array.getElem?_toList, hl]; rfl
  show wpOpsIn (rnd q) n P ops Q [0, 1] a w
  simp only [wpOpsIn, h0, h1]
  rw [wanted_none hg1, if_pos rfl]
  refine step_ok (e := .normal) (r' := r') (h' := h') hE S (.inr hnd1) ev fun ρ1 hh w1 r1 a1 X S1 e1 => ?_
  cases e1
  rw [wanted_none hg, if_pos rfl]
  obtain ⟨x, w2, hrun, hfin⟩ := hQ ρ1 w1 a1 X S1
  refine ⟨fun _ _ => trivial, ?_⟩
  rw [show (rnd q).round = q from rfl, semAt_plain (.inr hnd), hrun, Oper.uponIn_value]
  exact hfin
/-- a function without parameters whose body is shown by hand -/
theorem func_hand {f : Nat} {fn : Func} {c : Code} {hc h' : AH} {v : AV} (hf : P.funcs[f]? = some fn) (hb : fn.body = some c) (hnt : fn.ntmps ≤ 512) {ρ : Rho} {w : World} (R : Rel P.globals.size ρ σ hc w)
    (hwp : ∀ a : Act, St P σ fn.ntmps ρ hc w rg0 a → c.wpIn (rnd none) 0 P (fun e a1 w1 => (e = .normal ∨ e = .ret) ∧ ∃ ρ1 h1 r1, Ext P.globals.size σ ρ hc w ρ1 h1 w1 ∧ St P σ fn.ntmps ρ1 h1 w1 r1 a1 ∧ r1.d = [] ∧
      (cRes P fn.ntmps fn.results.toList).run r1 h1 = some [v] ∧ Wk h1 h') a w) : Calls P f #[] w (Back P σ ρ hc w v h') := by
  have S : St P σ fn.ntmps ρ hc w rg0 { tmps := #[] ++ Array.replicate (fn.ntmps - (#[] : Array Value).size) undef, defers := [] } := by
    refine ⟨R, ⟨hnt, by simp, fun t ht => ?_⟩, trivial⟩
    have hg : Hp.get 3 t rg0.t = undefA := Hp.get_fill ..
    rw [hg, Array.getD_eq_getD_getElem?]
    simp [ht]
    exact con_undef
  have key : ∀ {a1 : Act} {w1 : World}, (∃ ρ1 h1 r1, Ext P.globals.size σ ρ hc w ρ1 h1 w1 ∧ St P σ fn.ntmps ρ1 h1 w1 r1 a1 ∧ r1.d = [] ∧ (cRes P fn.ntmps fn.results.toList).run r1 h1 = some [v] ∧ Wk h1 h') →
      LeavesInM Fence.wide 0 P fn a1.tmps (Back P σ ρ hc w v h') a1.defers .returning w1 := by
    rintro a1 w1 ⟨ρ1, h1, r1, X, S1, hd, hv, W⟩
    have hds : a1.defers = [] := by
      have := S1.dfr
      rw [hd] at this
      cases hdd : a1.defers with
      | nil => rfl
      | cons d ds => rw [hdd] at this; exact this.elim
    rw [hds]
    obtain ⟨x, hx, hres⟩ := results_ok S1.rel S1.reg hv
    exact ⟨x, hres, x, ρ1, rfl, X.wk S1.rel.nx W, hx⟩
  have h1 := wpIn_mono (hwp _ S) (Q' := bodyPostM Fence.wide 0 P fn (Back P σ ρ hc w v h')) fun e a1 w1 hq => by
    obtain ⟨he, hq⟩ := hq
    rcases he with rfl | rfl
    · exact key hq
    · exact key hq
  exact callsIn_wide.1 (callsIn_of_wp_marks (F := Fence.wide) (n := 0) hf hb trivial h1)
end

/-! new blocks -/
inductive LB : Type where
  | cells (c : CL)
  | map (l : List (AV × AV))
def renKV (μ : Nat → Nat) (l : List (AV × AV)) : List (AV × AV) := l.map fun e => (e.1, ren μ e.2)
def LB.blk (μ : Nat → Nat) : LB → Blk
  | .cells c => c.blk μ
  | .map l => .map (renKV μ l)
/-- a key whose concrete form is the same whatever the blocks -/
def plainKey : AV → Bool
  | .int _ _ | .str _ | .bool _ => true
  | _ => false
def LB.ok : LB → Prop
  | .cells _ => True
  | .map l => ∀ e ∈ l, plainKey e.1 = true
theorem con_plainKey {ρ ρ' : Rho} {σ : Nat → ByteArray} {k : AV} (h : plainKey k = true) : con ρ σ k = con ρ' σ k := by
  cases k <;> first | rfl | cases h
theorem conKV_ren {ρ ρ' : Rho} {σ : Nat → ByteArray} {μ ξ : Nat → Nat} (hcon : ∀ u : AV, con ρ σ (ren μ u) = con ρ' σ (ren ξ u)) : ∀ (l : List (AV × AV)), (∀ e ∈ l, plainKey e.1 = true) → conKV ρ σ (renKV μ l) = conKV ρ' σ (renKV ξ l)
  | [], _ => rfl
  | (k, v) :: l, h => by
    show conKV ρ σ ((k, ren μ v) :: renKV μ l) = conKV ρ' σ ((k, ren ξ v) :: renKV ξ l)
    simp only [conKV, conKV_ren hcon l (fun e he => h e (List.mem_cons_of_mem _ he)), hcon, con_plainKey (ρ := ρ) (ρ' := ρ') (σ := σ) (h (k, v) List.mem_cons_self)]
theorem MapOk.ren {ρ ρ' : Rho} {σ : Nat → ByteArray} {μ ξ : Nat → Nat} {es : Array MapEntry} {l : List (AV × AV)} (hcon : ∀ u : AV, con ρ σ (ren μ u) = con ρ' σ (ren ξ u)) (hk : ∀ e ∈ l, plainKey e.1 = true) (M : MapOk ρ' σ es (renKV ξ l)) : MapOk ρ σ es (renKV μ l) := by
  obtain ⟨kvs, h1, h2⟩ := M.perm
  refine ⟨⟨kvs, by rw [conKV_ren hcon l hk]; exact h1, h2⟩, fun a ha b hb => ?_, ?_⟩
  · obtain ⟨a', ha', rfl⟩ := List.mem_map.1 ha
    obtain ⟨b', hb', rfl⟩ := List.mem_map.1 hb
    exact M.sort (a'.1, Go.Proofs.YteahdpjeoeeemaaGreatDoor.Ax.ren ξ a'.2) (List.mem_map.2 ⟨a', ha', rfl⟩) (b'.1, Go.Proofs.YteahdpjeoeeemaaGreatDoor.Ax.ren ξ b'.2) (List.mem_map.2 ⟨b', hb', rfl⟩)
  · have := M.apart
    unfold renKV at this ⊢
    rw [List.pairwise_map] at this ⊢
    exact this

section
variable {P : Program} {σ : Nat → ByteArray}

/-- a run over a small memory that leaves what was there as it was and lays new blocks of cells, carried to any memory -/
theorem carry_any {hc hc' h : AH} {μ ξ : Nat → Nat} {lit : List LB} {f : Nat} {v0 : AV} {argsc : List AV} (S : Small hc) (L : Lies P.globals.size hc h μ)
    (hsame : ∀ i, i < hc.nx → hget hc i ≠ .dead → hget hc' i = hget hc i)
    (hξ : ∀ k, lit.length ≤ k → hc'.nx ≤ ξ k) (hξm : ∀ k, k < lit.length → hc.nx ≤ ξ k ∧ ξ k < most) (hinj : ∀ j k, j < lit.length → k < lit.length → ξ j = ξ k → j = k)
    (hblk : ∀ k c, lit[k]? = some c → hget hc' (ξ k) = c.blk ξ) (hlb : ∀ (k : Nat) (c : LB), lit[k]? = some c → c.ok) (hroom : h.nx + lit.length ≤ most)
    (run : ∀ (ρ : Rho) (w : World) (xs : List Value), Rel P.globals.size ρ σ hc w → conL ρ σ argsc = some xs → Calls P f xs.toArray w (Back P σ ρ hc w (ren ξ v0) hc'))
    {ρ : Rho} {w : World} {xs : List Value} (R : Rel P.globals.size ρ σ h w) (hxs : conL ρ σ (renL μ argsc) = some xs) : Calls P f xs.toArray w (Back P σ ρ h w (ren (h.nx + ·) v0) (puts (lit.map (LB.blk (h.nx + ·))) h)) := by
  have Rc := L.rel S R
  rw [conL_ren] at hxs
  refine Calls.mono (run _ w xs Rc hxs) fun e w' hB => ?_
  obtain ⟨x, ρ', rfl, X, hx⟩ := hB
  have live0 : ∀ c, Live hc c → Live hc' c ∧ hget hc' c = hget hc c := by
    intro c hcl
    obtain ⟨hcn, _⟩ := S.live hcl
    have := hsame c hcn hcl.2
    exact ⟨⟨hcl.1, by rw [this]; exact hcl.2⟩, this⟩
  have image : ∀ c, Live hc c → Live h (μ c) := by
    intro c hcl
    obtain ⟨hcn, l, el, ro, wh, hb⟩ := S.live hcl
    obtain ⟨h1, h2⟩ := L.blk c l el ro wh hcn hb
    exact ⟨h1, by rw [h2]; simp⟩
  -- what was there stays as it was
  have stays : ∀ i p, Live h i → ρ i = some p → BRel ρ σ p w'.heap[p.blk]? (hget h i) := by
    intro i p hl hp
    obtain ⟨p0, hp0, hlt, hB⟩ := R.live i hl
    rw [hp] at hp0; cases hp0
    by_cases him : ∃ c, Live hc c ∧ μ c = i
    · obtain ⟨c, hcl, hci⟩ := him
      obtain ⟨hcn, l, el, ro, wh, hb⟩ := S.live hcl
      obtain ⟨hcl', hb'⟩ := live0 c hcl
      rw [hb] at hb'
      obtain ⟨p', hp', hlt', hB'⟩ := X.rel.live c hcl'
      rw [X.fr.old c hcn] at hp'
      have hp' : ρ (μ c) = some p' := hp'
      rw [hci, hp] at hp'; cases hp'
      rw [hb'] at hB'
      obtain ⟨cs, fz, ho, H⟩ := hB'
      have hbi := (L.blk c l el ro wh hcn hb).2
      rw [hci] at hbi
      rw [hbi]
      rw [hbi] at hB
      obtain ⟨cs0, fz0, ho0, H0⟩ := hB
      refine ⟨cs, fz, ho, H.size, by rw [renL_length]; exact H.fits, ?_, H.free, by rw [renL_length]; exact H.whole, H.fixd⟩
      intro j u hj
      obtain ⟨h1, y, hy, _⟩ := H0.cell j u hj
      rw [renL_get] at hj
      cases hlj : l[j]? with
      | none => rw [hlj] at hj; cases hj
      | some u0 =>
        rw [hlj] at hj
        cases hj
        obtain ⟨_, x2, hx2, hcx⟩ := H.cell j u0 hlj
        rw [con_ren] at hy
        have := con_mono (X.le Rc) u0 y hy
        rw [hx2] at this
        have hxy := Option.some.inj this
        exact ⟨h1, y, by rw [con_ren]; exact hy, by rw [← hxy]; exact hcx⟩
    · rw [X.fr.mem p.blk hlt fun c q hcl hq he => ?_]
      · exact hB
      · exact him ⟨c, hcl, R.inj _ _ q p (image c hcl) hl hq hp he⟩
  let ρ2 : Rho := fun i => if i < h.nx then ρ i else if i - h.nx < lit.length then ρ' (ξ (i - h.nx)) else none
  have hle : ρ.le ρ2 := fun i p hp => by
    show (if i < h.nx then ρ i else _) = some p
    rw [if_pos (R.dom i p hp)]; exact hp
  have hρ2 : ∀ k, ρ2 (h.nx + k) = ρ' (ξ k) := by
    intro k
    show (if h.nx + k < h.nx then _ else if h.nx + k - h.nx < lit.length then ρ' (ξ (h.nx + k - h.nx)) else none) = _
    rw [if_neg (by omega), Nat.add_sub_cancel_left]
    by_cases hk : k < lit.length
    · rw [if_pos hk]
    · rw [if_neg hk]
      exact (X.rel.fresh_none (hξ k (by omega))).symm
  have hcon : ∀ u : AV, con ρ2 σ (ren (h.nx + ·) u) = con ρ' σ (ren ξ u) := by
    intro u
    rw [con_ren, con_ren]
    congr 1
    funext k
    exact hρ2 k
  have hnx2 : (puts (lit.map (LB.blk (h.nx + ·))) h).nx = h.nx + lit.length := by rw [puts_nx, List.length_map]
  have hget2 : ∀ i, i < most → hget (puts (lit.map (LB.blk (h.nx + ·))) h) i = if i < h.nx then hget h i else ((lit[i - h.nx]?).map (LB.blk (h.nx + ·))).getD .dead := by
    intro i hi
    rw [puts_get _ h i (by rw [List.length_map]; exact hroom) hi]
    by_cases h1 : i < h.nx
    · rw [if_pos h1, if_pos h1]
    · rw [if_neg h1, if_neg h1, List.getElem?_map, R.dead i (by omega) hi]
  -- what is new
  have hnew : ∀ i, i < most → ¬ i < h.nx → hget (puts (lit.map (LB.blk (h.nx + ·))) h) i ≠ .dead → ∃ k c, i = h.nx + k ∧ lit[k]? = some c ∧ k < lit.length ∧ Live hc' (ξ k) ∧ hget (puts (lit.map (LB.blk (h.nx + ·))) h) i = c.blk (h.nx + ·) := by
    intro i hi h1 hl
    rw [hget2 i hi, if_neg h1] at hl ⊢
    cases hc0 : lit[i - h.nx]? with
    | none => rw [hc0] at hl; exact absurd rfl hl
    | some c =>
      have hk : i - h.nx < lit.length := (List.getElem?_eq_some_iff.1 hc0).1
      refine ⟨i - h.nx, c, by omega, hc0, hk, ⟨(hξm _ hk).2, by rw [hblk _ c hc0]; cases c <;> simp [LB.blk, CL.blk]⟩, rfl⟩
  have hge : ∀ k p, k < lit.length → Live hc' (ξ k) → ρ' (ξ k) = some p → w.heap.size ≤ p.blk := by
    intro k p hk hl hp
    rcases X.fr.new (ξ k) p hl hp with h1 | ⟨j, q, hj, hq, he⟩
    · exact h1
    · have hjn := (S.live hj).1
      have := X.rel.inj (ξ k) j p q hl (live0 j hj).1 hp (by rw [X.fr.old j hjn]; exact hq) he.symm
      have := (hξm k hk).1
      omega
  have hsz := X.fr.size
  refine ⟨x, ρ2, rfl, ⟨⟨by rw [hnx2]; exact hroom, ?_, ?_, ?_, ?_, ?_⟩, X.fr.os, X.fr.tape, X.fr.output, hsz, by rw [hnx2]; omega, ?_, ?_, ?_, ?_⟩, by rw [hcon]; exact hx⟩
  · intro i p hp
    rw [hnx2]
    have hp : (if i < h.nx then ρ i else if i - h.nx < lit.length then ρ' (ξ (i - h.nx)) else none) = some p := hp
    by_cases h1 : i < h.nx
    · omega
    · rw [if_neg h1] at hp
      split at hp
      · omega
      · cases hp
  · intro i hi hm
    rw [hnx2] at hi
    rw [hget2 i hm, if_neg (by omega), List.getElem?_eq_none (by omega)]; rfl
  · intro g hg
    obtain ⟨p, hp, h1⟩ := R.glob g hg
    exact ⟨p, hle g p hp, h1⟩
  · intro i hl
    by_cases h1 : i < h.nx
    · have hl' : Live h i := ⟨hl.1, by have := hl.2; rw [hget2 i hl.1, if_pos h1] at this; exact this⟩
      obtain ⟨p, hp, hlt, hB⟩ := R.live i hl'
      refine ⟨p, hle i p hp, by omega, ?_⟩
      rw [hget2 i hl.1, if_pos h1]
      exact (stays i p hl' hp).mono hle
    · obtain ⟨k, c, rfl, hck, hk, hlk, hgk⟩ := hnew i hl.1 h1 hl.2
      obtain ⟨p, hp, hlt, hB⟩ := X.rel.live (ξ k) hlk
      refine ⟨p, by rw [hρ2]; exact hp, hlt, ?_⟩
      rw [hgk]
      rw [hblk k c hck] at hB
      have hok := hlb k c hck
      cases c with
      | map l =>
        obtain ⟨es, clock, ho, M, B⟩ := hB
        exact ⟨es, clock, ho, M.ren hcon hok, B⟩
      | cells c =>
      obtain ⟨cs, fz, ho, H⟩ := hB
      refine ⟨cs, fz, ho, H.size, by rw [renL_length, ← renL_length (μ := ξ)]; exact H.fits, ?_, H.free, by rw [renL_length, ← renL_length (μ := ξ)]; exact H.whole, H.fixd⟩
      intro j u hj
      rw [renL_get] at hj
      cases hlj : c.l[j]? with
      | none => rw [hlj] at hj; cases hj
      | some u0 =>
        rw [hlj] at hj
        cases hj
        obtain ⟨h2, y, hy, hcy⟩ := H.cell j (ren ξ u0) (by rw [renL_get, hlj]; rfl)
        refine ⟨by rw [isCell_ren]; rw [isCell_ren] at h2; exact h2, y, by rw [hcon]; exact hy, hcy⟩
  · have old : ∀ i, Live (puts (lit.map (LB.blk (h.nx + ·))) h) i → i < h.nx → Live h i := fun i hl h1 => ⟨hl.1, by have := hl.2; rw [hget2 i hl.1, if_pos h1] at this; exact this⟩
    have hρo : ∀ i, i < h.nx → ρ2 i = ρ i := fun i hi => by show (if i < h.nx then ρ i else _) = _; rw [if_pos hi]
    have mixed : ∀ i j p q, Live (puts (lit.map (LB.blk (h.nx + ·))) h) i → Live (puts (lit.map (LB.blk (h.nx + ·))) h) j → i < h.nx → ¬ j < h.nx → ρ2 i = some p → ρ2 j = some q → p.blk = q.blk → False := by
      intro i j p q hi hj h1 h2 hp hq he
      obtain ⟨p', hp', hlt, _⟩ := R.live i (old i hi h1)
      rw [hρo i h1, hp'] at hp; cases hp
      obtain ⟨k, c, rfl, _, hk, hlk, _⟩ := hnew j hj.1 h2 hj.2
      rw [hρ2] at hq
      have := hge k q hk hlk hq
      omega
    intro i j p q hi hj hp hq he
    by_cases h1 : i < h.nx <;> by_cases h2 : j < h.nx
    · rw [hρo i h1] at hp; rw [hρo j h2] at hq
      exact R.inj i j p q (old i hi h1) (old j hj h2) hp hq he
    · exact (mixed i j p q hi hj h1 h2 hp hq he).elim
    · exact (mixed j i q p hj hi h2 h1 hq hp he.symm).elim
    · obtain ⟨k, c, rfl, _, hk, hlk, _⟩ := hnew i hi.1 h1 hi.2
      obtain ⟨k', c', rfl, _, hk', hlk', _⟩ := hnew j hj.1 h2 hj.2
      rw [hρ2] at hp hq
      rw [hinj k k' hk hk' (X.rel.inj _ _ p q hlk hlk' hp hq he)]
  · intro i hi
    show (if i < h.nx then ρ i else _) = _
    rw [if_pos hi]
  · intro i hi hd
    have hm : i < most := by have := R.nx; omega
    rw [hget2 i hm, if_pos hi]; exact hd
  · intro c hc1 hno
    exact X.fr.mem c hc1 fun i q hil hq => hno _ q (image i hil) hq
  · intro i p hl hp
    by_cases h1 : i < h.nx
    · have hl' : Live h i := ⟨hl.1, by have := hl.2; rw [hget2 i hl.1, if_pos h1] at this; exact this⟩
      have hp : (if i < h.nx then ρ i else _) = some p := hp
      rw [if_pos h1] at hp
      exact .inr ⟨i, p, hl', hp, rfl⟩
    · obtain ⟨k, c, rfl, _, hk, hlk, _⟩ := hnew i hl.1 h1 hl.2
      rw [hρ2] at hp
      exact .inl (hge k p hk hlk hp)
end
end Go.Proofs.YteahdpjeoeeemaaGreatDoor.Ax

namespace Go.Proofs.YteahdpjeoeeemaaGreatDoor.Ax
set_option linter.unusedVariables false
set_option linter.unusedSimpArgs false
set_option linter.unnecessarySimpa false

noncomputable abbrev gt (t : Nat) (r : Rg) : AV := Hp.get 3 t r.t
noncomputable abbrev st (t : Nat) (v : AV) (r : Rg) : Rg := (setD (some t)).run v r

theorem gt_same (t : Nat) (v : AV) (r : Rg) (ht : t < 512) : gt t (st t v r) = v := g_same t v r ht
theorem gt_ne (t u : Nat) (v : AV) (r : Rg) (ht : t < 512) (hu : u < 512) (hne : u ≠ t) : gt t (st u v r) = gt t r := g_ne t u v r ht hu hne
theorem dead_all : ∀ (bs : List Nat) (h : AH), (∀ b ∈ bs, b < most) → ∀ i, i < most → hget (bs.foldl (fun h b => hput h b .dead) h) i = if i ∈ bs then .dead else hget h i
  | [], h, _, i, _ => by simp
  | b :: bs, h, hb, i, hi => by
    rw [List.foldl_cons, dead_all bs _ (fun c hc => hb c (List.mem_cons_of_mem _ hc)) i hi, hget_hput h b i .dead (hb b List.mem_cons_self) hi]
    by_cases h1 : i ∈ bs
    · rw [if_pos h1, if_pos (List.mem_cons_of_mem _ h1)]
    · rw [if_neg h1]
      by_cases h2 : i = b
      · rw [if_pos h2, if_pos (by rw [h2]; exact List.mem_cons_self)]
      · rw [if_neg h2, if_neg (by simp [h1, h2])]
theorem putE_new {s : List Nat} {v : AV} : ∀ (l : List (AV × AV)), (∀ e ∈ l, ∃ t, e.1 = .str t ∧ t ≠ s) → putE (.str s) v l = some (l ++ [(.str s, v)])
  | [], _ => rfl
  | (k, u) :: l, h => by
    obtain ⟨t, ht, hne⟩ := h _ List.mem_cons_self
    simp only at ht
    subst ht
    have ih := putE_new (s := s) (v := v) l (fun e he => h e (List.mem_cons_of_mem _ he))
    have he : eqX s t = false := by
      cases hx : eqX s t with
      | false => rfl
      | true => rw [eqX_iff, decide_eq_true_eq] at hx; exact absurd hx.symm hne
    show sw (eqX s t) (some ((AV.str s, v) :: l)) (onOpt (putE (.str s) v l) (fun r => some ((AV.str t, u) :: r)) none) = _
    rw [he, sw_false, ih]
    rfl

structure TabCode (P : Program) (f tmap trow : Nat) (zrow : List AV) (fn : Func) (A0 A1 A2 A3 A4 A9 A10 C c8 : Code) (b0 b2 : Nat) (ops6 ops7 : Array Oper) (l6 l7 : List Oper) (o5 : Oper) : Prop where
  hfn : P.funcs[f]? = some fn
  nt : fn.ntmps = 30
  res : fn.results = #[.tmp 0]
  body : ∃ (b1 i5 : Nat) (ops5 : Array Oper) (o5' : Oper), fn.body = some (.seq A0 (.seq A1 (.seq (.seq A2 (.block b0 (.loop (.seq A3 (.seq (.cond (.tmp 15) .skip (.exit b0)) (.seq (.block b1 (.seq A4 (.seq (.region i5 ops5 false) (.block b2 (.loop C))))) A9)))))) (.seq A10 .ret)))) ∧
    ops5.toList = [o5, o5'] ∧ o5.guard = none ∧ o5'.guard = none ∧ (∀ c, o5.op ≠ .defer c) ∧ o5'.op = .range tmap (.tmp 18) ∧ o5'.dst = some 19
  tmap : ∃ kt et, P.underlying tmap = some (.map kt et)
  loop : MapLoop P 30 C b2 21 19 20 22 ops6 ops7 l6 l7 c8
  q3 : ∀ E k r h, (cCode P 30 A3).run E k r h = onR1 (lssV (gt 14 r) (gt 13 r)) (fun v => .ok .normal (st 15 v r) h) .no
  q4 : ∀ E k r h, (cCode P 30 A4).run E k r h = onR1 (indexAddrV 1 (gt 12 r) (gt 14 r)) (fun v => onR1 (onPtr (gt 16 (st 16 v r)) (fun b o => ld1 h b o) .no) (fun u => .ok .normal (st 3 (gt 17 (st 17 u (st 16 v r))) (st 17 u (st 16 v r))) h) .no) .no
  q5 : ∀ E r h, (stepK (cOp P 30 o5) (setD o5.dst).run (fun _ r h => .ok .normal r h)).run E r h = .ok .normal (st 18 (gt 3 r) r) h
  q6 : ∀ E r h, (cOps P 30 ops6 l6).run E r h = onR1 (extractV 0 (gt 20 r)) (fun v => .ok .normal (st 21 v r) h) .no
  q7 : ∀ E r h, (cOps P 30 ops7 l7).run E r h = onR1 (extractV 0 (gt 22 r)) (fun v => onR1 (extractV 1 (gt 22 (st 23 v r))) (fun u => sw (Nat.blt h.nx most) (
      onRH (onPtr (gt 5 (st 4 (gt 23 (st 5 (.ptr h.nx 0) (st 24 u (st 23 v r)))) (st 5 (.ptr h.nx 0) (st 24 u (st 23 v r))))) (fun b o => cellsX (gt 24 (st 4 (gt 23 (st 5 (.ptr h.nx 0) (st 24 u (st 23 v r)))) (st 5 (.ptr h.nx 0) (st 24 u (st 23 v r))))) (fun cs =>
        sw (Nat.beq (lenX cs) 3) (stL ⟨Hp.set 5 h.nx (.cells zrow trow false true) h.hp, Nat.succ h.nx⟩ b o cs (fun h' => .ok undefA h') .no) .no) .no) .no) (fun _ h' => .ok .normal (st 4 (gt 23 (st 5 (.ptr h.nx 0) (st 24 u (st 23 v r)))) (st 5 (.ptr h.nx 0) (st 24 u (st 23 v r)))) h') .no) .no) .no) .no
  q8 : ∀ E k r h, (cCode P 30 c8).run E k r h = onR1 (onPtr (gt 5 (st 26 (gt 4 (st 25 (gt 1 r) r)) (st 25 (gt 1 r) r))) (fun b o => ldN 3 h b o) .no) (fun v =>
      onRH (updateV 1 h (gt 25 (st 27 v (st 26 (gt 4 (st 25 (gt 1 r) r)) (st 25 (gt 1 r) r)))) (gt 26 (st 27 v (st 26 (gt 4 (st 25 (gt 1 r) r)) (st 25 (gt 1 r) r)))) (gt 27 (st 27 v (st 26 (gt 4 (st 25 (gt 1 r) r)) (st 25 (gt 1 r) r)))))
        (fun _ h' => .ok .normal (st 27 v (st 26 (gt 4 (st 25 (gt 1 r) r)) (st 25 (gt 1 r) r))) h') .no) .no
  q9 : ∀ E k r h, (cCode P 30 A9).run E k r h = onR1 (addV (gt 14 r) (.int 3 (Int.ofNat 1))) (fun v => .ok .normal (st 14 (gt 28 (st 28 v r)) (st 28 v r)) h) .no
  q10 : ∀ E k r h, (cCode P 30 A10).run E k r h = .ok .normal (st 0 (gt 29 (st 29 (gt 1 r) r)) (st 29 (gt 1 r) r)) h
  qr : ∀ r h, (cRes P 30 [.tmp 0]).run r h = some [gt 0 r]
  zrow : ∃ z0 z1 z2, zrow = [z0, z1, z2]

structure TabPre (parts : List (List (AV × AV))) (m sb : Nat) (bs : List Nat) (rP : Rg) (hP : AH) : Prop where
  g1 : gt 1 rP = .map m
  g12 : ∃ c, gt 12 rP = .slice sb 0 parts.length c 0
  g13 : gt 13 rP = .int 3 (Int.ofNat parts.length)
  g14 : gt 14 rP = .int 3 (Int.ofNat 0)
  d : rP.d = []
  hm : hget hP m = .map []
  hs : ∃ e ro wh, hget hP sb = .cells (bs.map .map) e ro wh
  hb : ∀ (i b : Nat) (l : List (AV × AV)), bs[i]? = some b → parts[i]? = some l → hget hP b = .map l
  len : bs.length = parts.length
  few : parts.length < 1000
  mb : m ∉ bs
  msb : m ≠ sb
  sbb : sb ∉ bs
  nd : bs.Nodup
  lm : m < hP.nx
  lb : ∀ b ∈ bs, b < hP.nx
  nx : hP.nx + parts.flatten.length + parts.length < most
  keys : parts.flatten.Pairwise fun a b => a.1 ≠ b.1
  rows : ∀ e ∈ parts.flatten, ∃ s x y z, e = (.str s, .agg [x, y, z])

end Go.Proofs.YteahdpjeoeeemaaGreatDoor.Ax

namespace Go.Proofs.YteahdpjeoeeemaaGreatDoor.Ax
set_option linter.unusedVariables false
set_option linter.unusedSimpArgs false
set_option linter.unnecessarySimpa false

section
variable {P : Program} {σ : Nat → ByteArray}
variable {f tmap trow : Nat} {zrow : List AV} {fn : Func} {A0 A1 A2 A3 A4 A9 A10 C c8 : Code} {b0 b2 : Nat} {ops6 ops7 : Array Oper} {l6 l7 : List Oper} {o5 : Oper}

/-- the body of the inner loop -/
theorem tab_round (T : TabCode P f tmap trow zrow fn A0 A1 A2 A3 A4 A9 A10 C c8 b0 b2 ops6 ops7 l6 l7 o5) {E : Env} {k : Nat} {r : Rg} {h : AH} {m j : Nat} {s : List Nat} {x y z : AV} {l : List (AV × AV)}
    (hn : h.nx < most) (hd : ∀ i, h.nx ≤ i → i < most → hget h i = .dead) (hm : m < h.nx) (hb : hget h m = .map l) (h1 : gt 1 r = .map m) (h19 : gt 19 r = .ptr j 0) (hl : ∀ e ∈ l, ∃ t, e.1 = .str t ∧ t ≠ s) :
    ∃ r1 r2 r3 h2 h3 h4,
      (cOps P 30 ops6 l6).run E (st 20 (.tup [.bool true, .str s, .agg [x, y, z]]) r) h = .ok .normal r1 h ∧ Hp.get 3 21 r1.t = .bool true ∧ Hp.get 3 19 r1.t = .ptr j 0 ∧
      (cOps P 30 ops7 l7).run E (st 22 (.tup [.str s, .agg [x, y, z]]) r1) h = .ok .normal r2 h2 ∧ (cCode P 30 c8).run E k r2 h2 = .ok .normal r3 h3 ∧ Wk h3 h4 ∧
      (∀ t, t < 512 → t ≠ 4 → t ≠ 5 → ¬ (20 ≤ t ∧ t ≤ 27) → gt t r3 = gt t r) ∧ r3.d = r.d ∧ h4.nx = h.nx + 1 ∧ ∀ i, i < most → hget h4 i = if i = m then .map (l ++ [(.str s, .agg [x, y, z])]) else hget h i := by
  have e6 : (cOps P 30 ops6 l6).run E (st 20 (.tup [.bool true, .str s, .agg [x, y, z]]) r) h = .ok .normal (st 21 (.bool true) (st 20 (.tup [.bool true, .str s, .agg [x, y, z]]) r)) h := by
    rw [T.q6, gt_same 20 _ _ (by decide)]; rfl
  obtain ⟨z0, z1, z2, hz⟩ := T.zrow
  generalize hr1 : st 21 (.bool true) (st 20 (.tup [.bool true, .str s, .agg [x, y, z]]) r) = r1 at e6
  let ra := st 22 (.tup [.str s, .agg [x, y, z]]) r1
  let rb := st 4 (.str s) (st 5 (.ptr h.nx 0) (st 24 (.agg [x, y, z]) (st 23 (.str s) ra)))
  let hA : AH := ⟨Hp.set 5 h.nx (.cells zrow trow false true) h.hp, Nat.succ h.nx⟩
  let hB : AH := hput hA h.nx (.cells [x, y, z] trow false true)
  have hgA : ∀ i, i < most → hget hA i = if i = h.nx then .cells zrow trow false true else hget h i := fun i hi => hget_set h h.nx i _ _ hn hi
  have hgB : ∀ i, i < most → hget hB i = if i = h.nx then .cells [x, y, z] trow false true else hget h i := by
    intro i hi
    rw [show hget hB i = _ from hget_hput hA h.nx i _ hn hi]
    by_cases e : i = h.nx
    · rw [if_pos e, if_pos e]
    · rw [if_neg e, if_neg e, hgA i hi, if_neg e]
  have e7 : (cOps P 30 ops7 l7).run E ra h = .ok .normal rb hB := by
    rw [T.q7]
    have a22 : gt 22 ra = .tup [.str s, .agg [x, y, z]] := g_same _ _ _ (by decide)
    have b22 : gt 22 (st 23 (.str s) ra) = .tup [.str s, .agg [x, y, z]] := by rw [show gt 22 (st 23 (.str s) ra) = gt 22 ra from g_ne _ _ _ _ (by decide) (by decide) (by decide), a22]
    have x0 : extractV 0 (.tup [.str s, .agg [x, y, z]]) = .ok (.str s) := rfl
    have x1 : extractV 1 (.tup [.str s, .agg [x, y, z]]) = .ok (.agg [x, y, z]) := rfl
    have o1 : ∀ (v : AV) (F : AV → XR), onR1 (.ok v) F .no = F v := fun _ _ => rfl
    rw [a22, x0, o1, b22, x1, o1, blt_dec, decide_eq_true hn, sw_true]
    have c23 : gt 23 (st 5 (.ptr h.nx 0) (st 24 (.agg [x, y, z]) (st 23 (.str s) ra))) = .str s := by
      rw [show gt 23 (st 5 (.ptr h.nx 0) (st 24 (.agg [x, y, z]) (st 23 (.str s) ra))) = gt 23 (st 24 (.agg [x, y, z]) (st 23 (.str s) ra)) from g_ne _ _ _ _ (by decide) (by decide) (by decide),
        show gt 23 (st 24 (.agg [x, y, z]) (st 23 (.str s) ra)) = gt 23 (st 23 (.str s) ra) from g_ne _ _ _ _ (by decide) (by decide) (by decide)]
      exact g_same _ _ _ (by decide)
    rw [c23]
    have d5 : gt 5 rb = .ptr h.nx 0 := by
      rw [show gt 5 rb = gt 5 (st 5 (.ptr h.nx 0) (st 24 (.agg [x, y, z]) (st 23 (.str s) ra))) from g_ne _ _ _ _ (by decide) (by decide) (by decide)]
      exact g_same _ _ _ (by decide)
    have d24 : gt 24 rb = .agg [x, y, z] := by
      rw [show gt 24 rb = gt 24 (st 5 (.ptr h.nx 0) (st 24 (.agg [x, y, z]) (st 23 (.str s) ra))) from g_ne _ _ _ _ (by decide) (by decide) (by decide),
        show gt 24 (st 5 (.ptr h.nx 0) (st 24 (.agg [x, y, z]) (st 23 (.str s) ra))) = gt 24 (st 24 (.agg [x, y, z]) (st 23 (.str s) ra)) from g_ne _ _ _ _ (by decide) (by decide) (by decide)]
      exact g_same _ _ _ (by decide)
    show onRH (onPtr (gt 5 rb) (fun b o => cellsX (gt 24 rb) (fun cs => sw (Nat.beq (lenX cs) 3) (stL hA b o cs (fun h' => .ok undefA h') .no) .no) .no) .no) (fun _ h' => XR.ok .normal rb h') XR.no = _
    rw [d5, d24]
    show onRH (stL hA h.nx 0 [x, y, z] (fun h' => .ok undefA h') .no) (fun _ h' => XR.ok .normal rb h') XR.no = _
    unfold stL
    rw [hgA h.nx hn, if_pos rfl, hz]
    rfl
  -- what the registers hold
  have f1 : gt 1 rb = .map m := by
    have : gt 1 rb = gt 1 r := by
      rw [show gt 1 rb = gt 1 (st 5 (.ptr h.nx 0) (st 24 (.agg [x, y, z]) (st 23 (.str s) ra))) from g_ne _ _ _ _ (by decide) (by decide) (by decide),
        show gt 1 (st 5 (.ptr h.nx 0) (st 24 (.agg [x, y, z]) (st 23 (.str s) ra))) = gt 1 (st 24 (.agg [x, y, z]) (st 23 (.str s) ra)) from g_ne _ _ _ _ (by decide) (by decide) (by decide),
        show gt 1 (st 24 (.agg [x, y, z]) (st 23 (.str s) ra)) = gt 1 (st 23 (.str s) ra) from g_ne _ _ _ _ (by decide) (by decide) (by decide),
        show gt 1 (st 23 (.str s) ra) = gt 1 ra from g_ne _ _ _ _ (by decide) (by decide) (by decide),
        show gt 1 ra = gt 1 r1 from g_ne _ _ _ _ (by decide) (by decide) (by decide), ← hr1,
        show gt 1 (st 21 (.bool true) (st 20 (.tup [.bool true, .str s, .agg [x, y, z]]) r)) = gt 1 (st 20 (.tup [.bool true, .str s, .agg [x, y, z]]) r) from g_ne _ _ _ _ (by decide) (by decide) (by decide)]
      exact g_ne _ _ _ _ (by decide) (by decide) (by decide)
    rw [this, h1]
  have f4 : gt 4 rb = .str s := g_same _ _ _ (by decide)
  have f5 : gt 5 rb = .ptr h.nx 0 := by
    rw [show gt 5 rb = gt 5 (st 5 (.ptr h.nx 0) (st 24 (.agg [x, y, z]) (st 23 (.str s) ra))) from g_ne _ _ _ _ (by decide) (by decide) (by decide)]
    exact g_same _ _ _ (by decide)
  let rc := st 26 (.str s) (st 25 (.map m) rb)
  let rd := st 27 (.agg [x, y, z]) rc
  let hC : AH := hput hB m (.map (l ++ [(.str s, .agg [x, y, z])]))
  have hmm : m < most := by omega
  have e8 : (cCode P 30 c8).run E k rb hB = .ok .normal rd hC := by
    rw [T.q8, f1]
    have g4 : gt 4 (st 25 (.map m) rb) = .str s := by rw [show gt 4 (st 25 (.map m) rb) = gt 4 rb from g_ne _ _ _ _ (by decide) (by decide) (by decide), f4]
    rw [g4]
    have g5 : gt 5 rc = .ptr h.nx 0 := by
      rw [show gt 5 rc = gt 5 (st 25 (.map m) rb) from g_ne _ _ _ _ (by decide) (by decide) (by decide), show gt 5 (st 25 (.map m) rb) = gt 5 rb from g_ne _ _ _ _ (by decide) (by decide) (by decide), f5]
    have p1 : ∀ (b o : Nat) (F : Nat → Nat → R1), onPtr (.ptr b o) F .no = F b o := fun _ _ _ => rfl
    have o1 : ∀ (v : AV) (F : AV → XR), onR1 (.ok v) F .no = F v := fun _ _ => rfl
    rw [show gt 5 (st 26 (.str s) (st 25 (.map m) rb)) = .ptr h.nx 0 from g5, p1]
    have hld : ldN 3 hB h.nx 0 = .ok (.agg [x, y, z]) := by
      unfold ldN
      rw [hgB h.nx hn, if_pos rfl]
      rfl
    rw [hld, o1]
    have i25 : gt 25 rd = .map m := by
      rw [show gt 25 rd = gt 25 rc from g_ne _ _ _ _ (by decide) (by decide) (by decide), show gt 25 rc = gt 25 (st 25 (.map m) rb) from g_ne _ _ _ _ (by decide) (by decide) (by decide)]
      exact g_same _ _ _ (by decide)
    have i26 : gt 26 rd = .str s := by
      rw [show gt 26 rd = gt 26 rc from g_ne _ _ _ _ (by decide) (by decide) (by decide)]
      exact g_same _ _ _ (by decide)
    have i27 : gt 27 rd = .agg [x, y, z] := g_same _ _ _ (by decide)
    show onRH (updateV 1 hB (gt 25 rd) (gt 26 rd) (gt 27 rd)) (fun _ h' => XR.ok .normal rd h') XR.no = _
    rw [i25, i26, i27]
    show onRH (onMapB (hget hB m) (fun l => onOpt (putE (.str s) (.agg [x, y, z]) l) (fun l' => .ok undefA (hput hB m (.map l'))) .no) .no) (fun _ h' => XR.ok .normal rd h') XR.no = _
    rw [hgB m hmm, if_neg (by omega), hb]
    show onRH (onOpt (putE (.str s) (.agg [x, y, z]) l) (fun l' => .ok undefA (hput hB m (.map l'))) .no) (fun _ h' => XR.ok .normal rd h') XR.no = _
    rw [putE_new l hl]
    rfl
  have hgC : ∀ i, i < most → hget hC i = if i = m then .map (l ++ [(.str s, .agg [x, y, z])]) else hget hB i := fun i hi => hget_hput hB m i _ hmm hi
  have hgD : ∀ i, i < most → hget (hput hC h.nx .dead) i = if i = m then .map (l ++ [(.str s, .agg [x, y, z])]) else hget h i := by
    intro i hi
    rw [hget_hput hC h.nx i .dead hn hi]
    by_cases e : i = h.nx
    · rw [if_pos e, if_neg (by omega), e, hd h.nx (Nat.le_refl _) hn]
    · rw [if_neg e, hgC i hi]
      by_cases e2 : i = m
      · rw [if_pos e2, if_pos e2]
      · rw [if_neg e2, if_neg e2, hgB i hi, if_neg e]
  refine ⟨r1, rb, rd, hB, hC, hput hC h.nx .dead, e6, ?_, ?_, e7, e8, Wk.dead hC h.nx hn, ?_, ?_, rfl, hgD⟩
  · rw [← hr1]; exact g_same _ _ _ (by decide)
  · rw [← hr1]
    rw [show Hp.get 3 19 (st 21 (.bool true) (st 20 (.tup [.bool true, .str s, .agg [x, y, z]]) r)).t = gt 19 (st 20 (.tup [.bool true, .str s, .agg [x, y, z]]) r) from g_ne _ _ _ _ (by decide) (by decide) (by decide),
      show gt 19 (st 20 (.tup [.bool true, .str s, .agg [x, y, z]]) r) = gt 19 r from g_ne _ _ _ _ (by decide) (by decide) (by decide)]
    exact h19
  · intro t ht h4 h5 hr
    have n : ∀ u v r, u < 512 → u ≠ t → gt t (st u v r) = gt t r := fun u v r hu hne => g_ne t u v r ht hu hne
    show gt t (st 27 _ (st 26 _ (st 25 _ (st 4 _ (st 5 _ (st 24 _ (st 23 _ (st 22 _ r1)))))))) = _
    rw [n 27 _ _ (by decide) (by omega), n 26 _ _ (by decide) (by omega), n 25 _ _ (by decide) (by omega), n 4 _ _ (by decide) (by omega), n 5 _ _ (by decide) (by omega), n 24 _ _ (by decide) (by omega), n 23 _ _ (by decide) (by omega), n 22 _ _ (by decide) (by omega), ← hr1,
      n 21 _ _ (by decide) (by omega), n 20 _ _ (by decide) (by omega)]
  · show rd.d = r.d
    simp only [rd, rc, rb, ra, st, setD_d, ← hr1]
end
end Go.Proofs.YteahdpjeoeeemaaGreatDoor.Ax

namespace Go.Proofs.YteahdpjeoeeemaaGreatDoor.Ax
set_option linter.unusedVariables false
set_option linter.unusedSimpArgs false
set_option linter.unnecessarySimpa false

theorem pairwise_ne {α β : Type} {k : α → β} : ∀ {l : List α}, l.Pairwise (fun a b => k a ≠ k b) → ∀ {x y : α}, x ∈ l → y ∈ l → x ≠ y → k x ≠ k y
  | [], _, _, _, hx, _, _ => by cases hx
  | a :: l, h, x, y, hx, hy, hne => by
    obtain ⟨h1, h2⟩ := List.pairwise_cons.1 h
    rcases List.mem_cons.1 hx with hx | hx
    · rcases List.mem_cons.1 hy with hy | hy
      · exact absurd (hx.trans hy.symm) hne
      · rw [hx]; exact h1 y hy
    · rcases List.mem_cons.1 hy with hy | hy
      · rw [hy]; exact fun e => h1 x hx e.symm
      · exact pairwise_ne h2 hx hy hne
theorem nodup_le {α : Type} : ∀ {D E : List α}, D.Nodup → (∀ x ∈ D, x ∈ E) → D.length ≤ E.length
  | [], _, _, _ => Nat.zero_le _
  | x :: D, E, hn, h => by
    obtain ⟨A, B, rfl⟩ := List.append_of_mem (h x List.mem_cons_self)
    obtain ⟨h1, h2⟩ := List.nodup_cons.1 hn
    have := nodup_le (E := A ++ B) h2 fun y hy => by
      have hyE := h y (List.mem_cons_of_mem _ hy)
      have hne : y ≠ x := fun e => h1 (e ▸ hy)
      simp only [List.mem_append, List.mem_cons] at hyE ⊢
      rcases hyE with h | h | h
      · exact .inl h
      · exact absurd h hne
      · exact .inr h
    simp only [List.length_append, List.length_cons] at this ⊢
    omega
theorem take_succ_flatten {α : Type} {L : List (List α)} {p : Nat} {l : List α} (h : L[p]? = some l) : (L.take (p + 1)).flatten = (L.take p).flatten ++ l := by
  rw [List.take_add_one, h]
  simp
theorem onList_drop {α : Type} {l : List AV} {n : Nat} {v : AV} {f : AV → List AV → α} {d : α} (h : l[n]? = some v) : ∃ t, onList (dropX n l) f d = f v t := by
  induction n generalizing l with
  | zero => cases l with
    | nil => cases h
    | cons a l => simp at h; subst h; exact ⟨l, rfl⟩
  | succ n ih => cases l with
    | nil => cases h
    | cons a l => exact ih (l := l) (by simpa using h)

section
variable {P : Program} {σ : Nat → ByteArray}
variable {f tmap trow : Nat} {zrow : List AV} {fn : Func} {A0 A1 A2 A3 A4 A9 A10 C c8 : Code} {b0 b2 : Nat} {ops6 ops7 : Array Oper} {l6 l7 : List Oper} {o5 : Oper}

/-- the registers that last -/
structure Regs (m sb n p : Nat) (r : Rg) : Prop where
  g1 : gt 1 r = .map m
  g12 : ∃ c, gt 12 r = .slice sb 0 n c 0
  g13 : gt 13 r = .int 3 (Int.ofNat n)
  g14 : gt 14 r = .int 3 (Int.ofNat p)
  d : r.d = []
theorem Regs.set {m sb n p : Nat} {r : Rg} (R : Regs m sb n p r) {t : Nat} {v : AV} (ht : t < 512) (h1 : t ≠ 1) (h12 : t ≠ 12) (h13 : t ≠ 13) (h14 : t ≠ 14) : Regs m sb n p (st t v r) := by
  refine ⟨by rw [gt_ne 1 t v r (by decide) ht h1]; exact R.g1, ?_, by rw [gt_ne 13 t v r (by decide) ht h13]; exact R.g13, by rw [gt_ne 14 t v r (by decide) ht h14]; exact R.g14, by rw [setD_d]; exact R.d⟩
  obtain ⟨c, hc⟩ := R.g12
  exact ⟨c, by rw [gt_ne 12 t v r (by decide) ht h12]; exact hc⟩

/-- the inner loop, over one part -/
theorem tab_inner (hm : P.follows .mixedOrders = true) (T : TabCode P f tmap trow zrow fn A0 A1 A2 A3 A4 A9 A10 C c8 b0 b2 ops6 ops7 l6 l7 o5) {E : Env} {k : Nat} (hE : ∀ ρ, EnvOk P σ ρ E)
    {ρ0 ρ : Rho} {h0 h : AH} {w0 w : World} {r : Rg} {a : Act} {m sb n p b : Nat} {T0 l : List (AV × AV)} (R0 : Rel P.globals.size ρ0 σ h0 w0) (X : Ext P.globals.size σ ρ0 h0 w0 ρ h w) (S : St P σ 30 ρ h w r a) (G : Regs m sb n p r) (g18 : gt 18 r = .map b)
    (hb : hget h b = .map l) (hmb : hget h m = .map T0) (hne : m ≠ b) (hl : b < h.nx) (hlm : m < h.nx) (hnx : h.nx + l.length + 1 < most) (rows : ∀ e ∈ T0 ++ l, ∃ s x y z, e = (.str s, .agg [x, y, z])) (keys : (T0 ++ l).Pairwise fun a b => a.1 ≠ b.1)
    {o5' : Oper} (ho : o5'.op = .range tmap (.tmp 18)) (hod : o5'.dst = some 19) {Q : Exit → Act → World → Prop}
    (hQ : ∀ (ρ1 : Rho) (h1 : AH) (w1 : World) (r1 : Rg) (a1 : Act), Ext P.globals.size σ ρ0 h0 w0 ρ1 h1 w1 → St P σ 30 ρ1 h1 w1 r1 a1 → Regs m sb n p r1 → h1.nx = h.nx + 1 + l.length →
      (∀ i, i < most → hget h1 i = if i = m then .map (T0 ++ l) else if i = b then .dead else hget h i) → Q (.exit b2) a1 w1) :
    ∃ x w2, (execOp a.eval o5').run P w = .ok (.value x) w2 ∧ (Code.loop C).wpIn (rnd none) 0 P Q (a.put o5'.dst x) w2 := by
  obtain ⟨kt, et, hT⟩ := T.tmap
  have hn : h.nx < most := by omega
  have hbl : Live h b := ⟨by omega, by rw [hb]; simp⟩
  obtain ⟨pb, hpb, hlt, hB⟩ := S.rel.live b hbl
  rw [hb] at hB
  obtain ⟨es, clock, hes, M, B⟩ := hB
  obtain ⟨g, hperm, hg⟩ := M.entries B
  have hev : a.eval (.tmp 18) = .map (some pb.blk) := by
    have h2 := S.reg.reg 18 (by decide)
    rw [show Hp.get 3 18 r.t = .map b from g18] at h2
    simp only [con, hpb] at h2
    exact (Option.some.inj h2).symm
  let w2 := w.alloc (.mapIter (some pb.blk) clock #[] clock)
  let pi : Place := ⟨w.heap.size, 0, 0, none⟩
  have hrun : (execOp a.eval o5').run P w = .ok (.value (.pointer (some ⟨w.heap.size, 0, none⟩))) w2 := by
    simp only [execOp, ho, hev]
    exact run_v (run_range_map w tmap kt et pb.blk es clock hT hes)
  refine ⟨_, w2, hrun, ?_⟩
  let hq0 : AH := ⟨Hp.set 5 h.nx .dead h.hp, Nat.succ h.nx⟩
  have X1 : Ext P.globals.size σ ρ h w (ρ.put h.nx pi) hq0 w2 := Ext.alloc S.rel hn (.mapIter (some pb.blk) clock #[] clock) .dead pi rfl trivial w2 rfl rfl rfl rfl
  have hle := X1.le S.rel
  generalize hρ1 : ρ.put h.nx pi = ρ1 at X1 hle
  have hpi : ρ1 h.nx = some pi := by rw [← hρ1]; exact Rho.put_same ..
  have hgq0 : ∀ i, i < most → hget hq0 i = if i = h.nx then .dead else hget h i := fun i hi => hget_set h h.nx i _ _ hn hi
  have hbl0 : Live hq0 b := ⟨hbl.1, by rw [hgq0 b hbl.1, if_neg (by omega), hb]; simp⟩
  have W := Wk.dead hq0 b hbl.1
  let hq := hput hq0 b .dead
  have hgq : ∀ i, i < most → hget hq i = if i = b then .dead else hget h i := by
    intro i hi
    rw [show hget hq i = _ from hget_hput hq0 b i .dead hbl.1 hi]
    by_cases e : i = b
    · rw [if_pos e, if_pos e]
    · rw [if_neg e, if_neg e, hgq0 i hi]
      by_cases e2 : i = h.nx
      · rw [if_pos e2, e2, S.rel.dead h.nx (Nat.le_refl _) hn]
      · rw [if_neg e2]
  have Xq := (X.trans R0 X1).wk X1.rel.nx W
  have hjc : con ρ1 σ (.ptr h.nx 0) = some (.pointer (some ⟨w.heap.size, 0, none⟩)) := con_ptr_mk hpi
  have Sq : St P σ 30 ρ1 hq w2 (st 19 (.ptr h.nx 0) r) (a.put o5'.dst (.pointer (some ⟨w.heap.size, 0, none⟩))) := by
    rw [hod]
    have := S.put X1 (dst := some 19) hjc (fun d hd => by cases hd; decide)
    exact ⟨this.rel.wk W, this.reg, this.dfr⟩
  have hHb : Hid ρ1 hq w2 pb.blk := Hid.of_dead X1.rel hbl0 (hle b pb hpb)
  have hHr : Hid ρ1 hq w2 w.heap.size := by
    refine ⟨by show w.heap.size < (w.heap.push _).size; simp, fun i q hli hq he => ?_⟩
    have hi0 := (W.live hli).1
    have hne2 : i ≠ h.nx := fun e => hi0.2 (by rw [hgq0 i hi0.1, if_pos e])
    have hih : Live h i := ⟨hi0.1, by have := hi0.2; rw [hgq0 i hi0.1, if_neg hne2] at this; exact this⟩
    obtain ⟨q', hq', hlt', _⟩ := S.rel.live i hih
    have := hle i q' hq'
    rw [hq] at this
    have := Option.some.inj this
    rw [this] at he
    omega
  have hbe : w2.heap[pb.blk]? = some (.map es clock) := by rw [← hes]; exact heap_alloc_old w _ hlt
  have hre : w2.heap[w.heap.size]? = some (.mapIter (some pb.blk) clock #[] clock) := heap_alloc_new w _
  have hlen : es.toList.length = l.length := by rw [← hperm.length_eq, List.length_map]
  have hnd := B.2
  have hlp : l.Pairwise fun a b => a.1 ≠ b.1 := (List.pairwise_append.1 keys).2.1
  have hgp : es.toList.Pairwise fun a b => (g a).1 ≠ (g b).1 := by
    have : (es.toList.map g).Pairwise fun a b => a.1 ≠ b.1 := (hperm.pairwise_iff (fun h => Ne.symm h)).2 hlp
    rw [List.pairwise_map] at this
    exact this
  have hgmem : ∀ x ∈ es.toList, g x ∈ l := fun x hx => hperm.mem_iff.1 (List.mem_map_of_mem hx)
  let Inv : List MapEntry → Rg → AH → Prop := fun D r1 h1 => gt 19 r1 = .ptr h.nx 0 ∧ Regs m sb n p r1 ∧ h1.nx = hq.nx + D.length ∧ ∀ i, i < most → hget h1 i = if i = m then .map (T0 ++ D.map g) else hget hq i
  let Fin : Rg → AH → Prop := fun r1 h1 => ∃ D, List.Perm D es.toList ∧ Regs m sb n p r1 ∧ h1.nx = hq.nx + D.length ∧ ∀ i, i < most → hget h1 i = if i = m then .map (T0 ++ D.map g) else hget hq i
  have hqnx : hq.nx = h.nx + 1 := rfl
  have hmm : m < most := by omega
  refine map_loop hm T.loop (E := E) (k := k) (hE ρ1) (g := g) (fun x hx => B.1 x hx) hnd (Nat.le_refl _) (fun x hx => ?_) hjc Inv Fin (fun D r1 h1 I => I.1) ?_ ?_ R0 Xq Sq hHb hHr X.fr.size (by omega) hbe hre (Nat.le_refl _) ?_ ?_
  · obtain ⟨h1, h2⟩ := hg x hx
    exact ⟨con_mono hle _ _ h1, con_mono hle _ _ h2⟩
  · -- a round
    intro D x r1 h1 I hD hDn hx hxD
    obtain ⟨i19, iG, inx, iget⟩ := I
    have hDlen : D.length < es.toList.length := by
      have hsub : (D ++ [x]).Nodup := by
        rw [List.nodup_append]
        refine ⟨nodup_of_born hDn, by simp, fun y hy z hz e => ?_⟩
        rw [List.mem_singleton] at hz
        exact hxD (hz ▸ e ▸ hy)
      have hsub2 : (D ++ [x]) ⊆ es.toList := fun y hy => by
        rcases List.mem_append.1 hy with h | h
        · exact hD y h
        · rw [List.mem_singleton] at h; rw [h]; exact hx
      have h3 := nodup_le hsub fun y hy => hsub2 hy
      rw [List.length_append] at h3
      exact h3
    obtain ⟨s, x1, y1, z1, hrow⟩ := rows (g x) (List.mem_append.2 (.inr (hgmem x hx)))
    have hdead : ∀ i, h1.nx ≤ i → i < most → hget h1 i = .dead := by
      intro i hi him
      rw [iget i him, if_neg (by omega), hgq i him, if_neg (by omega)]
      exact S.rel.dead i (by omega) him
    have hkey : ∀ e ∈ T0 ++ D.map g, ∃ t, e.1 = .str t ∧ t ≠ s := by
      intro e he
      have hek : e.1 ≠ (g x).1 := by
        rcases List.mem_append.1 he with h | h
        · exact (List.pairwise_append.1 keys).2.2 e h (g x) (hgmem x hx)
        · obtain ⟨y, hy, rfl⟩ := List.mem_map.1 h
          exact pairwise_ne (k := fun y => (g y).1) hgp (hD y hy) hx (fun e => hxD (e ▸ hy))
      have hrow2 : ∃ s x y z, e = (AV.str s, AV.agg [x, y, z]) := by
        rcases List.mem_append.1 he with h | h
        · exact rows e (List.mem_append.2 (.inl h))
        · obtain ⟨y, hy, rfl⟩ := List.mem_map.1 h
          exact rows (g y) (List.mem_append.2 (.inr (hgmem y (hD y hy))))
      obtain ⟨t, _, _, _, rfl⟩ := hrow2
      refine ⟨t, rfl, fun e => hek ?_⟩
      rw [hrow, e]
    obtain ⟨r2, r3, r4, h2, h3, h4, e6, ec, eit, e7, e8, W4, hreg, hdd, hnx4, hget4⟩ := tab_round (T := T) (E := E) (k := k) (r := r1) (h := h1) (m := m) (j := h.nx) (s := s) (x := x1) (y := y1) (z := z1) (l := T0 ++ D.map g)
      (by omega) hdead (by omega) (by rw [iget m hmm, if_pos rfl]) iG.g1 i19 hkey
    refine ⟨r2, r3, r4, h2, h3, h4, by rw [hrow]; exact e6, ec, eit, by rw [hrow]; exact e7, e8, W4, ?_, ?_, ?_, ?_⟩
    · rw [hreg 19 (by decide) (by decide) (by decide) (by omega)]; exact i19
    · refine ⟨by rw [hreg 1 (by decide) (by decide) (by decide) (by omega)]; exact iG.g1, ?_, by rw [hreg 13 (by decide) (by decide) (by decide) (by omega)]; exact iG.g13, by rw [hreg 14 (by decide) (by decide) (by decide) (by omega)]; exact iG.g14, hdd.trans iG.d⟩
      obtain ⟨c, hc⟩ := iG.g12
      exact ⟨c, by rw [hreg 12 (by decide) (by decide) (by decide) (by omega)]; exact hc⟩
    · rw [hnx4, inx, List.length_append]; simp; omega
    · intro i hi
      rw [hget4 i hi]
      by_cases e : i = m
      · rw [if_pos e, if_pos e, List.map_append, ← List.append_assoc, ← hrow]; rfl
      · rw [if_neg e, if_neg e, iget i hi, if_neg e]
  · -- the end
    intro D r1 h1 I hp
    obtain ⟨i19, iG, inx, iget⟩ := I
    refine ⟨st 21 (.bool false) (st 20 (.tup [.bool false]) r1), ?_, gt_same 21 _ _ (by decide), D, hp, ?_, inx, iget⟩
    · have x0 : extractV 0 (.tup [.bool false]) = .ok (.bool false) := rfl
      have o1 : ∀ (v : AV) (F : AV → XR), onR1 (.ok v) F .no = F v := fun _ _ => rfl
      rw [show (setD (some 20)).run (.tup [.bool false]) r1 = st 20 (.tup [.bool false]) r1 from rfl, T.q6, gt_same 20 _ _ (by decide), x0, o1]
    · exact (iG.set (by decide) (by decide) (by decide) (by decide) (by decide)).set (by decide) (by decide) (by decide) (by decide) (by decide)
  · refine ⟨gt_same 19 _ _ (by decide), G.set (by decide) (by decide) (by decide) (by decide) (by decide), rfl, fun i hi => ?_⟩
    by_cases e : i = m
    · rw [if_pos e, e, hgq m hmm, if_neg hne, hmb]; simp
    · rw [if_neg e]
  · intro ρ2 h2 w2' r2 a2 X2 S2 hle2 hF
    obtain ⟨D, hp, iG, inx, iget⟩ := hF
    have hDl : D.length = l.length := by rw [hp.length_eq, hlen]
    have hpl : List.Perm (T0 ++ D.map g) (T0 ++ l) := List.Perm.append_left T0 ((hp.map g).trans hperm)
    have hb2 : hget h2 m = .map (T0 ++ D.map g) := by rw [iget m hmm, if_pos rfl]
    refine hQ ρ2 (hput h2 m (.map (T0 ++ l))) w2' r2 a2 (X2.map_perm hmm hb2 hpl) ⟨S2.rel.map_perm hmm hb2 hpl, S2.reg, S2.dfr⟩ iG ?_ fun i hi => ?_
    · show h2.nx = _
      rw [inx, hqnx, hDl]
    · rw [hget_hput h2 m i _ hmm hi]
      by_cases e : i = m
      · rw [if_pos e, if_pos e]
      · rw [if_neg e, if_neg e, iget i hi, if_neg e, hgq i hi]
/-- the inner loop in its block -/
theorem tab_inner2 (hm : P.follows .mixedOrders = true) (T : TabCode P f tmap trow zrow fn A0 A1 A2 A3 A4 A9 A10 C c8 b0 b2 ops6 ops7 l6 l7 o5) {E : Env} {k : Nat} (hE : ∀ ρ, EnvOk P σ ρ E)
    {ρ0 ρ : Rho} {h0 h : AH} {w0 w : World} {r : Rg} {a : Act} {m sb n p b : Nat} {T0 l : List (AV × AV)} (R0 : Rel P.globals.size ρ0 σ h0 w0) (X : Ext P.globals.size σ ρ0 h0 w0 ρ h w) (S : St P σ 30 ρ h w r a) (G : Regs m sb n p r) (g18 : gt 18 r = .map b)
    (hb : hget h b = .map l) (hmb : hget h m = .map T0) (hne : m ≠ b) (hl : b < h.nx) (hlm : m < h.nx) (hnx : h.nx + l.length + 1 < most) (rows : ∀ e ∈ T0 ++ l, ∃ s x y z, e = (.str s, .agg [x, y, z])) (keys : (T0 ++ l).Pairwise fun a b => a.1 ≠ b.1)
    {o5' : Oper} (ho : o5'.op = .range tmap (.tmp 18)) (hod : o5'.dst = some 19) {Q : Exit → Act → World → Prop}
    (hQ : ∀ (ρ1 : Rho) (h1 : AH) (w1 : World) (r1 : Rg) (a1 : Act), Ext P.globals.size σ ρ0 h0 w0 ρ1 h1 w1 → St P σ 30 ρ1 h1 w1 r1 a1 → Regs m sb n p r1 → h1.nx = h.nx + 1 + l.length →
      (∀ i, i < most → hget h1 i = if i = m then .map (T0 ++ l) else if i = b then .dead else hget h i) → Q .normal a1 w1) :
    ∃ x w2, (execOp a.eval o5').run P w = .ok (.value x) w2 ∧ (Code.block b2 (Code.loop C)).wpIn (rnd none) 0 P Q (a.put o5'.dst x) w2 := by
  obtain ⟨x, w2, h1, h2⟩ := tab_inner (k := k) (Q := Exit.inBlock b2 Q) hm T hE R0 X S G g18 hb hmb hne hl hlm hnx rows keys ho hod fun ρ1 h1 w1 r1 a1 X1 S1 G1 n1 e1 => by
    show (if b2 = b2 then _ else _)
    rw [if_pos rfl]
    exact hQ ρ1 h1 w1 r1 a1 X1 S1 G1 n1 e1
  exact ⟨x, w2, h1, wpIn_block h2⟩
end
end Go.Proofs.YteahdpjeoeeemaaGreatDoor.Ax

namespace Go.Proofs.YteahdpjeoeeemaaGreatDoor.Ax
set_option linter.unusedVariables false
set_option linter.unusedSimpArgs false
set_option linter.unnecessarySimpa false

section
variable {P : Program} {σ : Nat → ByteArray}
variable {f tmap trow : Nat} {zrow : List AV} {fn : Func} {A0 A1 A2 A3 A4 A9 A10 C c8 : Code} {b0 b2 : Nat} {ops6 ops7 : Array Oper} {l6 l7 : List Oper} {o5 : Oper}

theorem onXR_normal {x : XR} {K : Rg → AH → XR} {r' : Rg} {h' : AH} (e : onXR x (fun e r h => @AEx.casesOn (fun _ => XR) e (K r h) (fun id => .ok (.exit id) r h) (.ok .ret r h)) .no = .ok .normal r' h') : ∃ r h, x = .ok .normal r h ∧ K r h = .ok .normal r' h' := by
  obtain ⟨e1, r, h, hx, e2⟩ := onXR_inv e (by simp)
  cases e1 with
  | normal => exact ⟨r, h, hx, e2⟩
  | exit id => cases e2
  | ret => cases e2

theorem table_ok (hm : P.follows .mixedOrders = true) (T : TabCode P f tmap trow zrow fn A0 A1 A2 A3 A4 A9 A10 C c8 b0 b2 ops6 ops7 l6 l7 o5) {E : Env} {k : Nat} (hE : ∀ ρ, EnvOk P σ ρ E) {hc hP : AH} {rP : Rg}
    (pre : (cCode P 30 (.seq A0 (.seq A1 A2))).run E k rg0 hc = .ok .normal rP hP) {parts : List (List (AV × AV))} {m sb : Nat} {bs : List Nat} (TP : TabPre parts m sb bs rP hP) {hfin : AH}
    (hfn : hfin.nx = hP.nx + parts.flatten.length + parts.length) (hfg : ∀ i, i < most → hget hfin i = .dead ∨ hget hfin i = if i = m then .map parts.flatten else if i ∈ bs then .dead else hget hP i)
    {ρ : Rho} {w : World} (R : Rel P.globals.size ρ σ hc w) : Calls P f #[] w (Back P σ ρ hc w (.map m) hfin) := by
  obtain ⟨b1, i5, ops5, o5', hbody, ho5, hg5, hg5', hnd5, hop5, hd5⟩ := T.body
  have hnd5' : ∀ c, o5'.op ≠ .defer c := fun c hc => by rw [hop5] at hc; cases hc
  refine func_hand T.hfn hbody (by rw [T.nt]; decide) R fun a S => ?_
  rw [T.nt, T.res] at *
  obtain ⟨r1, h1, e1, pre⟩ := onXR_normal (K := fun r h => (cCode P 30 (.seq A1 A2)).run E k r h) pre
  obtain ⟨r2, h2, e2, pre⟩ := onXR_normal (K := fun r h => (cCode P 30 A2).run E k r h) pre
  refine wpIn_seq (code_ok hm A0 (hE ρ) S (.inl rfl) e1 fun ρ1 w1 a1 X1 S1 => ?_)
  refine wpIn_seq (code_ok hm A1 (hE ρ1) S1 (.inl rfl) e2 fun ρ2 w2 a2 X2 S2 => ?_)
  refine wpIn_seq (wpIn_seq (code_ok hm A2 (hE ρ2) S2 (.inl rfl) pre fun ρ3 w3 a3 X3 S3 => ?_))
  have X03 := (X1.trans R X2).trans R X3
  clear X1 X2 X3 S1 S2 S e1 e2 pre
  -- the outer loop
  generalize hn : parts.length = n at *
  let O : Nat → Rg → AH → Prop := fun p r h => Regs m sb n p r ∧ h.nx = hP.nx + ((parts.take p).flatten).length + p ∧ ∀ i, i < most → hget h i = if i = m then .map (parts.take p).flatten else if i ∈ bs.take p then .dead else hget hP i
  let K : Act → World → Nat → Prop := fun a1 w1 q => q ≤ n ∧ ∃ ρ1 h1 r1, Ext P.globals.size σ ρ hc w ρ1 h1 w1 ∧ St P σ 30 ρ1 h1 w1 r1 a1 ∧ O (n - q) r1 h1
  have K0 : K a3 w3 n := by
    refine ⟨Nat.le_refl _, ρ3, hP, rP, X03, S3, ⟨TP.g1, by have := TP.g12; rw [hn] at this; exact this, by have := TP.g13; rw [hn] at this; exact this, by rw [Nat.sub_self]; exact TP.g14, TP.d⟩, ?_, fun i hi => ?_⟩
    · rw [Nat.sub_self]; simp
    · rw [Nat.sub_self]
      by_cases e : i = m
      · rw [if_pos e, e, TP.hm]; simp
      · rw [if_neg e]; simp
  refine wpIn_block (wpIn_loop (fun a1 w1 => ∃ q, K a1 w1 q) (fun a1 w1 => leastOf (K a1 w1)) ⟨n, K0⟩ ?_)
  rintro a4 w4 ⟨q0, hq0⟩
  obtain ⟨⟨hqn, ρ4, h4, r4, X4, S4, G, hnx, hget4⟩, hleast⟩ := leastOf_spec hq0
  generalize hq : leastOf (K a4 w4) = q at *
  have hfew := TP.few
  have l3 : lssV (gt 14 r4) (gt 13 r4) = .ok (.bool (Nat.blt (n - q) n)) := by rw [G.g14, G.g13]; rfl
  have o1 : ∀ (v : AV) (F : AV → XR), onR1 (.ok v) F .no = F v := fun _ _ => rfl
  have e3 : (cCode P 30 A3).run E k r4 h4 = .ok .normal (st 15 (.bool (Nat.blt (n - q) n)) r4) h4 := by rw [T.q3, l3, o1]
  refine wpIn_seq (code_ok hm A3 (hE ρ4) S4 (.inl rfl) e3 fun ρ5 w5 a5 X5 S5 => ?_)
  have G5 : Regs m sb n (n - q) (st 15 (.bool (Nat.blt (n - q) n)) r4) := G.set (by decide) (by decide) (by decide) (by decide) (by decide)
  generalize hr5 : st 15 (.bool (Nat.blt (n - q) n)) r4 = r5 at *
  have h15 : gt 15 r5 = .bool (Nat.blt (n - q) n) := by rw [← hr5]; exact gt_same 15 _ _ (by decide)
  have hc15 : a5.eval (.tmp 15) = .bool (Nat.blt (n - q) n) := by
    have h2 := S5.reg.reg 15 (by decide)
    rw [show Hp.get 3 15 r5.t = _ from h15] at h2
    exact (Option.some.inj h2).symm
  have X05 := X4.trans R X5
  cases q with
  | zero =>
    have hbl : Nat.blt (n - 0) n = false := by rw [blt_dec, decide_eq_false_iff_not]; omega
    rw [hbl] at hc15
    refine wpIn_seq (wpIn_cond (t := false) hc15 (wpIn_exit ?_))
    show (if b0 = b0 then _ else _)
    rw [if_pos rfl]
    have e10 := T.q10 E k r5 h4
    refine wpIn_seq (code_ok hm A10 (hE ρ5) S5 (.inl rfl) e10 fun ρ6 w6 a6 X6 S6 => wpIn_ret ⟨.inr rfl, ρ6, h4, _, X05.trans R X6, S6, ?_, ?_, ?_⟩)
    · rw [setD_d, setD_d]; exact G5.d
    · rw [T.qr, gt_same 0 _ _ (by decide), gt_same 29 _ _ (by decide), G5.g1]
    · refine ⟨by rw [hfn, hnx, Nat.sub_zero, ← hn, List.take_length], fun i hi => ?_⟩
      have hlen := TP.len
      rcases hfg i hi with e | e
      · exact .inr e
      · rw [e]
        rw [hget4 i hi, Nat.sub_zero, show bs.take n = bs by rw [← hn, ← hlen, List.take_length], show parts.take n = parts by rw [← hn, List.take_length]]
        exact .inl rfl
  | succ q =>
    have hpn : n - (q + 1) < n := by omega
    generalize hp : n - (q + 1) = p at *
    have hbl : Nat.blt p n = true := by rw [blt_dec, decide_eq_true_eq]; exact hpn
    rw [hbl] at hc15
    refine wpIn_seq (wpIn_cond (t := true) hc15 (wpIn_skip ?_))
    have hbp : p < bs.length := by rw [TP.len, hn]; exact hpn
    have hlp : p < parts.length := by rw [hn]; exact hpn
    obtain ⟨b, hb⟩ : ∃ b, bs[p]? = some b := ⟨bs[p], List.getElem?_eq_getElem hbp⟩
    obtain ⟨l, hl⟩ : ∃ l, parts[p]? = some l := ⟨parts[p], List.getElem?_eq_getElem hlp⟩
    have hbmem : b ∈ bs := List.mem_of_getElem? hb
    have hflat := take_succ_flatten hl
    have hsplit : parts.flatten = (parts.take (p + 1)).flatten ++ (parts.drop (p + 1)).flatten := by rw [← List.flatten_append, List.take_append_drop]
    have hbnot : b ∉ bs.take p := by
      intro h
      obtain ⟨i, hi⟩ := List.getElem?_of_mem h
      have hip : i < p := by
        have := (List.getElem?_eq_some_iff.1 hi).1
        rw [List.length_take] at this; omega
      rw [List.getElem?_take, if_pos hip] at hi
      have := (List.getElem?_inj (by omega) TP.nd).1 (hi.trans hb.symm)
      omega
    have hmb : m ≠ b := fun e => TP.mb (e ▸ hbmem)
    have hsbb : sb ≠ b := fun e => TP.sbb (e ▸ hbmem)
    have hbP := TP.lb b hbmem
    have hnP := TP.nx
    have hlm := TP.lm
    have hTl : ((parts.take p).flatten).length + l.length ≤ parts.flatten.length := by rw [hsplit, hflat]; simp
    have hb4 : hget h4 b = .map l := by rw [hget4 b (by omega), if_neg (fun e => hmb e.symm), if_neg hbnot]; exact TP.hb p b l hb hl
    have hm4 : hget h4 m = .map (parts.take p).flatten := by rw [hget4 m (by omega), if_pos rfl]
    obtain ⟨el, ro, wh, hsP⟩ := TP.hs
    have hsbm : sb < most := by
      rcases Nat.lt_or_ge sb most with h | h
      · exact h
      · obtain ⟨c, hc⟩ := G5.g12
        have h2 := S5.reg.reg 12 (by decide)
        rw [show Hp.get 3 12 r5.t = _ from hc] at h2
        obtain ⟨pl, hpl, _⟩ := con_slice h2
        have := S5.rel.dom _ _ hpl
        have := S5.rel.nx
        omega
    have hs4 : hget h4 sb = .cells (bs.map .map) el ro wh := by
      rw [hget4 sb hsbm, if_neg (fun e => TP.msb e.symm), if_neg (fun h => TP.sbb (List.mem_of_mem_take h))]; exact hsP
    -- the part
    refine wpIn_seq (wpIn_block (wpIn_seq ?_))
    have e4 : ∃ r6, (cCode P 30 A4).run E k r5 h4 = .ok .normal r6 h4 ∧ Regs m sb n p r6 ∧ gt 3 r6 = .map b := by
      obtain ⟨c, hc⟩ := G5.g12
      have x1 : indexAddrV 1 (gt 12 r5) (gt 14 r5) = .ok (.ptr sb (Nat.add 0 (Nat.mul p 1))) := by
        rw [hc, G5.g14]
        show sw (Nat.blt p n) _ R1.no = _
        rw [hbl]; rfl
      have x2 : Nat.add 0 (Nat.mul p 1) = p := by show 0 + p * 1 = p; omega
      rw [x2] at x1
      have x3 : gt 16 (st 16 (.ptr sb p) r5) = .ptr sb p := gt_same 16 _ _ (by decide)
      have p1 : ∀ (b o : Nat) (F : Nat → Nat → R1), onPtr (.ptr b o) F .no = F b o := fun _ _ _ => rfl
      have x4 : ld1 h4 sb p = .ok (.map b) := by
        unfold ld1
        rw [hs4]
        obtain ⟨t, ht⟩ := onList_drop (l := bs.map .map) (n := p) (v := .map b) (f := fun v _ => R1.ok v) (d := R1.no) (by rw [List.getElem?_map, hb]; rfl)
        exact ht
      refine ⟨st 3 (.map b) (st 17 (.map b) (st 16 (.ptr sb p) r5)), ?_, ?_, gt_same 3 _ _ (by decide)⟩
      · rw [T.q4, x1, o1, x3, p1, x4, o1, gt_same 17 _ _ (by decide)]
      · exact ((G5.set (by decide) (by decide) (by decide) (by decide) (by decide)).set (by decide) (by decide) (by decide) (by decide) (by decide)).set (by decide) (by decide) (by decide) (by decide) (by decide)
    obtain ⟨r6, e4, G6, g3⟩ := e4
    refine code_ok hm A4 (hE ρ5) S5 (.inl rfl) e4 fun ρ6 w6 a6 X6 S6 => ?_
    have X06 := X05.trans R X6
    refine wpIn_seq (region_hand2 ho5 hg5 hg5' hnd5 hnd5' (hE ρ6) S6 (T.q5 E r6 h4) fun ρ7 w7 a7 X7 S7 => ?_)
    have X07 := X06.trans R X7
    rw [g3] at S7
    have G7 : Regs m sb n p (st 18 (.map b) r6) := G6.set (by decide) (by decide) (by decide) (by decide) (by decide)
    show ∃ x w2, _ ∧ (Code.block b2 (Code.loop C)).wpIn (rnd none) 0 P _ _ w2
    refine tab_inner2 (k := k) hm T hE R X07 S7 G7 (gt_same 18 _ _ (by decide)) hb4 hm4 hmb (by omega) (by omega) (by omega) (fun e he => TP.rows e (by rw [hsplit, hflat]; exact List.mem_append.2 (.inl he)))
      (by have := TP.keys; rw [hsplit, hflat] at this; exact (List.pairwise_append.1 this).1) hop5 hd5 ?_
    · intro ρ8 h8 w8 r8 a8 X8 S8 G8 hnx8 hget8
      have x1 : addV (gt 14 r8) (.int 3 (Int.ofNat 1)) = .ok (.int 3 (Int.ofNat (p + 1))) := by
        rw [G8.g14]
        show R1.ok (.int 3 (wrapI 3 (Int.ofNat (p + 1)))) = _
        have : wrapI 3 (Int.ofNat (p + 1)) = Int.ofNat (p + 1) := by
          show sw (Nat.ble (p + 1) 4611686018427387904) (Int.ofNat (p + 1)) _ = _
          rw [ble_dec, decide_eq_true (by omega), sw_true]
        rw [this]
      have e9 : (cCode P 30 A9).run E k r8 h8 = .ok .normal (st 14 (.int 3 (Int.ofNat (p + 1))) (st 28 (.int 3 (Int.ofNat (p + 1))) r8)) h8 := by
        rw [T.q9, x1, o1, gt_same 28 _ _ (by decide)]
      refine code_ok hm A9 (hE ρ8) S8 (.inl rfl) e9 fun ρ9 w9 a9 X9 S9 => ?_
      have hK : K a9 w9 q := by
        refine ⟨by omega, ρ9, h8, _, X8.trans R X9, S9, ?_⟩
        have hp1 : n - q = p + 1 := by omega
        rw [hp1]
        have G9 : Regs m sb n p (st 28 (.int 3 (Int.ofNat (p + 1))) r8) := G8.set (by decide) (by decide) (by decide) (by decide) (by decide)
        refine ⟨⟨by rw [gt_ne 1 14 _ _ (by decide) (by decide) (by decide)]; exact G9.g1, ?_, by rw [gt_ne 13 14 _ _ (by decide) (by decide) (by decide)]; exact G9.g13, gt_same 14 _ _ (by decide), by rw [setD_d]; exact G9.d⟩, ?_, fun i hi => ?_⟩
        · obtain ⟨c, hc⟩ := G9.g12
          exact ⟨c, by rw [gt_ne 12 14 _ _ (by decide) (by decide) (by decide)]; exact hc⟩
        · rw [hnx8, hnx, hflat]; simp; omega
        · rw [hget8 i hi, hflat]
          by_cases e : i = m
          · rw [if_pos e, if_pos e]
          · rw [if_neg e, if_neg e]
            have htk : bs.take (p + 1) = bs.take p ++ [b] := by rw [List.take_add_one, hb]; rfl
            rw [htk]
            by_cases e2 : i = b
            · rw [if_pos e2, if_pos (by simp [e2])]
            · rw [if_neg e2, hget4 i hi, if_neg e]
              by_cases e3 : i ∈ bs.take p
              · rw [if_pos e3, if_pos (List.mem_append.2 (.inl e3))]
              · rw [if_neg e3, if_neg (by simp [e3, e2])]
      refine ⟨⟨q, hK⟩, ?_⟩
      have := (leastOf_spec hK).2 q hK
      show leastOf (K a9 w9) < q + 1
      omega
end
end Go.Proofs.YteahdpjeoeeemaaGreatDoor.Ax

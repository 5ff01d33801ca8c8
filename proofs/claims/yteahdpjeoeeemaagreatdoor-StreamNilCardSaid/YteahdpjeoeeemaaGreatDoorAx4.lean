/- A part of an executor of the model over an abstract memory, with the proof that what it says is what the model does: Appends, copies, entries that are set, strings that are gone through, bytes that become a string. Appends and copies, as operations. Appends and copies as operations; entries that are set; strings that are gone through; bytes that become a text. Entries that are set; strings that are gone through; bytes that become a text. -/
import Derived.Test.YteahdpjeoeeemaaGreatDoorAx3
import Derived.Lib.UnsafeStr
namespace Go.Proofs.YteahdpjeoeeemaaGreatDoor.Ax
set_option linter.unusedVariables false
set_option linter.unusedSimpArgs false
set_option linter.unnecessarySimpa false

section
variable {P : Program} {σ : Nat → ByteArray} {nt : Nat} {o : Oper}

/-- a block given up, and its memory, turned, taken on under the next number -/
theorem Ext.move {NG : Nat} {ρ : Rho} {h : AH} {w w' : World} (R : Rel NG ρ σ h w) {b : Nat} {p p' : Place} (hl : Live h b) (hp : ρ b = some p) (hn : h.nx < most) (hblk : p'.blk = p.blk) (x : Blk)
    (hsz : w'.heap.size = w.heap.size) (hother : ∀ k, k ≠ p.blk → w'.heap[k]? = w.heap[k]?) (hb : BRel (ρ.put h.nx p') σ p' w'.heap[p.blk]? x)
    (hos : w'.os = w.os) (ht : w'.tape = w.tape) (hout : w'.output = w.output) :
    Ext NG σ ρ h w (ρ.put h.nx p') ⟨Hp.set 5 h.nx x (hput h b .dead).hp, Nat.succ h.nx⟩ w' := by
  have hbm : b < most := hl.1
  have hbn : b < h.nx := R.live_lt hl
  have hnone : ρ h.nx = none := R.fresh_none (Nat.le_refl _)
  have hle : ρ.le (ρ.put h.nx p') := Rho.le_put hnone
  have hpt : ∀ i, i ≠ h.nx → (ρ.put h.nx p') i = ρ i := fun i hi => by unfold Rho.put; rw [if_neg hi]
  obtain ⟨q0, hq0, hlt0, _⟩ := R.live b hl
  rw [hp] at hq0; cases hq0
  let h' : AH := ⟨Hp.set 5 h.nx x (hput h b .dead).hp, Nat.succ h.nx⟩
  have hgetn : ∀ i, i < most → i ≠ h.nx → i ≠ b → hget h' i = hget h i := fun i hi hne hnb => by
    show hget ⟨Hp.set 5 h.nx x (hput h b .dead).hp, Nat.succ h.nx⟩ i = _
    rw [hget_set _ _ _ _ _ hn hi, if_neg hne, hget_hput _ _ _ _ hbm hi, if_neg hnb]
  have hgets : hget h' h.nx = x := by
    show hget ⟨Hp.set 5 h.nx x (hput h b .dead).hp, Nat.succ h.nx⟩ h.nx = _
    rw [hget_set _ _ _ _ _ hn hn, if_pos rfl]
  have hgetb : hget h' b = .dead := by
    show hget ⟨Hp.set 5 h.nx x (hput h b .dead).hp, Nat.succ h.nx⟩ b = _
    rw [hget_set _ _ _ _ _ hn hbm, if_neg (by omega), hget_hput _ _ _ _ hbm hbm, if_pos rfl]
  have hlive : ∀ i, Live h' i → i ≠ h.nx → Live h i ∧ i ≠ b := fun i hi hne => by
    have hnb : i ≠ b := fun e => hi.2 (by rw [e]; exact hgetb)
    exact ⟨⟨hi.1, by rw [← hgetn i hi.1 hne hnb]; exact hi.2⟩, hnb⟩
  refine ⟨⟨hn, ?_, ?_, ?_, ?_, ?_⟩, hos, ht, hout, by omega, by simp, ?_, ?_, ?_, ?_⟩
  · intro i q hq
    by_cases hi : i = h.nx
    · simp [hi]
    · rw [hpt i hi] at hq; have := R.dom i q hq; show i < Nat.succ h.nx; omega
  · intro i hi him
    have hi' : h.nx + 1 ≤ i := hi
    show hget h' i = .dead
    rw [hgetn i him (by omega) (by omega)]
    exact R.dead i (by omega) him
  · intro g hg
    obtain ⟨q, hq, h1⟩ := R.glob g hg
    exact ⟨q, hle g q hq, h1⟩
  · intro i hi
    by_cases he : i = h.nx
    · subst he
      refine ⟨p', Rho.put_same .., by omega, ?_⟩
      show BRel _ σ p' _ (hget h' h.nx)
      rw [hgets, hblk]; exact hb
    · obtain ⟨hli, hnb⟩ := hlive i hi he
      obtain ⟨q, hq, hlt, hB⟩ := R.live i hli
      refine ⟨q, hle i q hq, by omega, ?_⟩
      show BRel _ σ q _ (hget h' i)
      rw [hgetn i hi.1 he hnb, hother q.blk (fun hc => hnb (R.inj i b q p hli hl hq hp hc))]
      exact hB.mono hle
  · intro i j q r hi hj hq hr heq
    by_cases h1 : i = h.nx
    · by_cases h2 : j = h.nx
      · rw [h1, h2]
      · obtain ⟨hlj, hnb⟩ := hlive j hj h2
        rw [h1, Rho.put_same] at hq; cases hq
        rw [hpt j h2] at hr
        exact absurd (R.inj j b r p hlj hl hr hp (by omega)) hnb
    · obtain ⟨hli, hnb⟩ := hlive i hi h1
      by_cases h2 : j = h.nx
      · rw [h2, Rho.put_same] at hr; cases hr
        rw [hpt i h1] at hq
        exact absurd (R.inj i b q p hli hl hq hp (by omega)) hnb
      · obtain ⟨hlj, _⟩ := hlive j hj h2
        rw [hpt i h1] at hq; rw [hpt j h2] at hr
        exact R.inj i j q r hli hlj hq hr heq
  · intro i hi; exact hpt i (by omega)
  · intro i hi hd
    have hnb : i ≠ b := fun e => hl.2 (by rw [← e]; exact hd)
    show hget h' i = .dead
    rw [hgetn i (by omega) (by omega) hnb]; exact hd
  · intro c hc hno; exact hother c (fun e => hno b p hl hp e.symm)
  · intro i q hi hq
    by_cases he : i = h.nx
    · rw [he, Rho.put_same] at hq; cases hq
      exact .inr ⟨b, p, hl, hp, hblk.symm⟩
    · rw [hpt i he] at hq
      exact .inr ⟨i, q, (hlive i hi he).1, hq, rfl⟩

theorem growBy_le {need : Nat} : ∀ (r c : Nat), 256 ≤ c → Builtin.growBy need r c ≤ 2 ^ r * c
  | 0, c, h => by simp [Builtin.growBy]
  | r + 1, c, h => by
    unfold Builtin.growBy
    split
    · have : 1 ≤ 2 ^ (r + 1) := Nat.one_le_two_pow
      exact Nat.le_mul_of_pos_left c this
    · have h1 := growBy_le (need := need) r (c + (c + 768) / 4) (by omega)
      have h2 : c + (c + 768) / 4 ≤ 2 * c := by omega
      have h3 := Nat.mul_le_mul_left (2 ^ r) h2
      rw [Nat.pow_succ, Nat.mul_assoc]
      omega
theorem nextcap_le {need cap : Nat} (h1 : cap < need) (h2 : need ≤ mostLen) : Builtin.nextslicecap need cap ≤ 17179869184 := by
  have h2' : need ≤ 1073741824 := h2
  unfold Builtin.nextslicecap
  split
  · omega
  · split
    · omega
    · have := growBy_le (need := need) 4 cap (by omega)
      omega
/-- what an append does that finds no room -/
theorem grow_run {t e : TypeId} {ts : Array TypeId} {ty : TypeId} {es n len cap : Nat} {base : Option Addr} {X : Value} {i : TypeInfo} {Z : Value} {w : World} {olds news : List Value}
    (ht : ts[0]? = some t) (hu : P.underlying t = some (.slice e)) (hi : P.info? e = some i) (hZ : i.zero = some Z) (hZs : Z.cells.size = es) (his : i.size = es) (hpos : 0 < es) (hbytes : i.bytes ≤ 4096)
    (hint : intLike P ts[1]? = false) (hlen : (Builtin.lenOf X).run P w = .ok n w)
    (hold : ∀ w', w'.heap = w.heap → (Builtin.firstCells es len (.slice base len cap)).run P w' = .ok olds.toArray w')
    (hnew : ∀ w', w'.heap = w.heap → (Builtin.firstCells es n X).run P w' = .ok news.toArray w') (hno : olds.length = len * es) (hnn : news.length = n * es) (hroom : cap < len + n) (hneed : len + n ≤ mostLen) :
    ∃ (c : Array Value) (newCap : Nat) (w' : World), (Builtin.append_ ts ty #[.slice base len cap, X]).run P w = .ok (.slice (some ⟨w.heap.size, 0, none⟩) (len + n) newCap) w' ∧
      w'.heap = w.heap.push (.cells c e) ∧ w'.os = w.os ∧ w'.tape = w.tape ∧ w'.output = w.output ∧ c.size = newCap * es ∧ len + n ≤ newCap ∧ ∀ j, j < (len + n) * es → c[j]? = (olds ++ news)[j]? := by
  generalize hcap : Question.cut (.appendCap (len + n) cap e) (w.tape w.drawn (.appendCap (len + n) cap e)) = newCap
  have hge : len + n ≤ newCap := by rw [← hcap]; simp [Question.cut]
  let rest := Builtin.zeroCells Z.cells (newCap - (len + n))
  have hrest : rest.size = (newCap - (len + n)) * es := by simp [rest, Builtin.zeroCells, hZs]
  have hsize : (olds.toArray ++ news.toArray ++ rest).size = newCap * es := by
    rw [Array.size_append, Array.size_append, hrest, List.size_toArray, List.size_toArray, hno, hnn, ← Nat.add_mul, ← Nat.add_mul]
    congr 1; omega
  refine ⟨olds.toArray ++ news.toArray ++ rest, newCap, { w with heap := w.heap.push (.cells (olds.toArray ++ news.toArray ++ rest) e), drawn := w.drawn + 1 }, ?_, rfl, rfl, rfl, rfl, hsize, hge, ?_⟩
  · have hbound : ¬ (Builtin.nextslicecap (len + n) cap * i.bytes > 2 ^ 48) := by
      have h1 := nextcap_le hroom hneed
      have h2 := Nat.mul_le_mul h1 hbytes
      omega
    have hmax : ¬ (((len + n : Nat) : Int) > IntKind.i64.max) := by
      have e1 : IntKind.i64.max = 9223372036854775807 := by decide
      rw [e1]
      have : len + n ≤ 1073741824 := hneed
      omega
    have hsz : sizeT P e = es := by simp [sizeT, hi, his]
    have hzero : ∀ w', (zeroValue e).run P w' = .ok Z w' := fun w' => by simp [zeroValue, typeInfo, hi, hZ]
    have hti : ∀ w', (typeInfo e).run P w' = .ok i w' := fun w' => by simp [typeInfo, hi]
    have hnot : ¬ (len + n ≤ cap) := by omega
    have hq : ∀ w', (choose (.appendCap (len + n) cap e)).run P w' = .ok (Question.cut (.appendCap (len + n) cap e) (w'.tape w'.drawn (.appendCap (len + n) cap e))) { w' with drawn := w'.drawn + 1 } := fun w' => by
      simp [run_choose, Question.forced]
    unfold Builtin.append_
    simp only [ht, List.getElem?_toArray, List.getElem?_cons_zero, List.getElem?_cons_succ]
    simp only [Sem.run_bind, run_underlying' hu, Result.andThen_ok, sizeT_run hi, hsz]
    cases h1 : ts[1]? with
    | none =>
      simp only [Sem.run_bind, Sem.run_pure, Result.andThen_ok, Bool.false_eq_true, if_false, hlen]
      rw [if_neg hnot]
      simp only [Sem.run_bind, hti, Result.andThen_ok]
      rw [if_neg (fun hc => hmax hc.1)]
      simp only [Sem.run_pure, Result.andThen_ok, Sem.run_bind, hti]
      rw [if_neg hbound]
      simp only [Sem.run_pure, Result.andThen_ok, Sem.run_bind, hq, hcap, run_askRoom, Bool.not_false, if_true, hti]
      rw [hold { w with drawn := w.drawn + 1 } rfl]
      simp only [Result.andThen_ok]
      rw [hnew { w with drawn := w.drawn + 1 } rfl]
      simp only [Result.andThen_ok, hzero, run_newRow]
      rfl
    | some xt =>
      unfold intLike at hint
      rw [h1] at hint
      simp only at hint
      cases hux : P.underlying xt with
      | none => rw [hux] at hint; cases hint
      | some d =>
        rw [hux] at hint
        cases d <;> first
          | (cases hint; done)
          | (simp only [Sem.run_bind, run_underlying' hux, Result.andThen_ok, Sem.run_pure, Bool.false_eq_true, if_false, hlen]
             rw [if_neg hnot]
             simp only [Sem.run_bind, hti, Result.andThen_ok]
             rw [if_neg (fun hc => hmax hc.1)]
             simp only [Sem.run_pure, Result.andThen_ok, Sem.run_bind, hti]
             rw [if_neg hbound]
             simp only [Sem.run_pure, Result.andThen_ok, Sem.run_bind, hq, hcap, run_askRoom, Bool.not_false, if_true, hti]
             rw [hold { w with drawn := w.drawn + 1 } rfl]
             simp only [Result.andThen_ok]
             rw [hnew { w with drawn := w.drawn + 1 } rfl]
             simp only [Result.andThen_ok, hzero, run_newRow]
             rfl)
  · intro j hj
    have hl : (olds ++ news).length = (len + n) * es := by rw [List.length_append, hno, hnn, Nat.add_mul]
    rw [Array.getElem?_append_left (by rw [Array.size_append, List.size_toArray, List.size_toArray, hno, hnn, ← Nat.add_mul]; exact hj)]
    simp
/-- what an append does that finds room -/
theorem room_run {t e : TypeId} {ts : Array TypeId} {ty : TypeId} {es n len cap : Nat} {base : Option Addr} {X : Value} {i : TypeInfo} {w w' : World} {news : List Value}
    (ht : ts[0]? = some t) (hu : P.underlying t = some (.slice e)) (hi : P.info? e = some i) (his : i.size = es)
    (hint : intLike P ts[1]? = false) (hlen : (Builtin.lenOf X).run P w = .ok n w)
    (hnew : (Builtin.firstCells es n X).run P w = .ok news.toArray w) (hroom : len + n ≤ cap)
    (hst : (∀ A, base = some A → (storeCells (A.add (len * es)) news).run P w = .ok () w') ∧ (base = none → w' = w)) :
    (Builtin.append_ ts ty #[.slice base len cap, X]).run P w = .ok (.slice base (len + n) cap) w' := by
  have hsz : sizeT P e = es := by simp [sizeT, hi, his]
  unfold Builtin.append_
  simp only [ht, List.getElem?_toArray, List.getElem?_cons_zero, List.getElem?_cons_succ]
  simp only [Sem.run_bind, run_underlying' hu, Result.andThen_ok, sizeT_run hi, hsz]
  have fin : (do
      let new ← Builtin.firstCells es n X
      if let some a := base then storeCells (a.add (len * es)) new.toList
      pure (.slice base (len + n) cap) : Sem Value).run P w = .ok (.slice base (len + n) cap) w' := by
    simp only [Sem.run_bind, hnew, Result.andThen_ok]
    cases base with
    | none => simp only [Sem.run_pure, Result.andThen_ok, hst.2 rfl]
    | some A => simp only [Sem.run_bind, hst.1 A rfl, Result.andThen_ok, Sem.run_pure]
  simp only [Sem.run_bind] at fin
  cases h1 : ts[1]? with
  | none =>
    simp only [Sem.run_bind, Sem.run_pure, Result.andThen_ok, Bool.false_eq_true, if_false, hlen]
    rw [if_pos hroom]
    simp only [Bool.not_false, if_true, Sem.run_bind]
    exact fin
  | some xt =>
    unfold intLike at hint
    rw [h1] at hint
    simp only at hint
    cases hux : P.underlying xt with
    | none => rw [hux] at hint; cases hint
    | some d =>
      rw [hux] at hint
      cases d <;> first
        | (cases hint; done)
        | (simp only [Sem.run_bind, run_underlying' hux, Result.andThen_ok, Sem.run_pure, Bool.false_eq_true, if_false, hlen]
           rw [if_pos hroom]
           simp only [Bool.not_false, if_true, Sem.run_bind]
           exact fin)
end
end Go.Proofs.YteahdpjeoeeemaaGreatDoor.Ax

namespace Go.Proofs.YteahdpjeoeeemaaGreatDoor.Ax
set_option linter.unusedVariables false
set_option linter.unusedSimpArgs false
set_option linter.unnecessarySimpa false

section
variable {P : Program} {σ : Nat → ByteArray} {nt : Nat} {o : Oper}

theorem fresh_ok {ρ : Rho} {h h' : AH} {w w' : World} {obj : Obj} {x : Blk} {v : AV} {g : Nat → AV} {p : Place} (R : Rel P.globals.size ρ σ h w) (e : fresh h x g = .ok v h') (hp : p.blk = w.heap.size)
    (hb : BRel (ρ.put h.nx p) σ p (some obj) x) (hh : w'.heap = w.heap.push obj) (hos : w'.os = w.os) (ht : w'.tape = w.tape) (hout : w'.output = w.output) :
    v = g h.nx ∧ Ext P.globals.size σ ρ h w (ρ.put h.nx p) h' w' := by
  obtain ⟨hlt, e1⟩ := sw_inv e (by simp)
  rw [blt_dec, decide_eq_true_eq] at hlt
  cases e1
  exact ⟨rfl, Ext.alloc R hlt obj x p hp hb w' hh hos ht hout⟩
/-- the elements of a slice, loaded, wherever the memory is the same -/
theorem firstCells_run {ρ : Rho} {p : Place} {c : Array Value} {fz : Nat × Nat} {l vs : List AV} {ro wh : Bool} {w : World} {e n q es : Nat} (hh : w.heap[p.blk]? = some (.cells c e fz)) (H : CellsOk ρ σ p c fz l ro wh)
    (hv : takeX (n * es) (dropX q l) = some vs) (L C : Nat) : ∃ xs, conL ρ σ vs = some xs ∧ vs.all isCell = true ∧ xs.length = n * es ∧
      ∀ w', w'.heap = w.heap → (Builtin.firstCells es n (.slice (some ⟨p.blk, p.base + q, none⟩) L C)).run P w' = .ok xs.toArray w' := by
  obtain ⟨xs, hxs, hc, hn, _⟩ := ldN_run (P := P) hh H hv
  refine ⟨xs, hxs, hc, by rw [conL_length hxs]; exact hn, fun w' hw => ?_⟩
  obtain ⟨xs', hxs', _, _, hrun⟩ := ldN_run (P := P) (w := w') (by rw [hw]; exact hh) H hv
  rw [hxs] at hxs'; cases hxs'
  exact hrun
theorem cellsOk_grown {ρ : Rho} {l : List AV} {xs : List Value} {b size : Nat} {c : Array Value} (hl : conL ρ σ l = some xs) (hc : l.all isCell = true) (hsize : c.size = size) (hle : l.length ≤ size) (hget : ∀ j, j < l.length → c[j]? = xs[j]?) :
    CellsOk ρ σ ⟨b, 0, size, none⟩ c (0, 0) l false false := by
  refine ⟨hsize, by simpa using hle, ?_, fun _ j _ _ h => by simp at h, by simp, by simp⟩
  intro j v hj
  obtain ⟨x, hx, hcx⟩ := conL_get hl hj
  have hlt : j < l.length := (List.getElem?_eq_some_iff.1 hj).1
  exact ⟨List.all_eq_true.1 hc v (List.mem_of_getElem? hj), x, hcx, by rw [← hx, ← hget j hlt]; simp⟩
theorem appendL_ok {ts : Array TypeId} {ty t : TypeId} {e es n : Nat} {ρ : Rho} {h h' : AH} {w : World} {s v : AV} {S X : Value} {new : List AV} {news : List Value} (R : Rel P.globals.size ρ σ h w)
    (ht : ts[0]? = some t) (he : elemOfSl P t = some e) (hg : growElem P e = some es) (hint : intLike P ts[1]? = false) (hs : con ρ σ s = some S) (hlen : (Builtin.lenOf X).run P w = .ok n w)
    (hfirst : ∀ w', w'.heap = w.heap → (Builtin.firstCells es n X).run P w' = .ok news.toArray w') (hnew : conL ρ σ new = some news) (hcell : new.all isCell = true) (hnn : news.length = n * es) (hn : n ≤ mostLen)
    (ev : appendL e es h s n new = .ok v h') : ∃ Z w' ρ', (Builtin.append_ ts ty #[S, X]).run P w = .ok Z w' ∧ Ext P.globals.size σ ρ h w ρ' h' w' ∧ con ρ' σ v = some Z := by
  obtain ⟨i, ZZ, hi, hZ, hZs, his, hpos, hbytes⟩ := growElem_ok hg
  have hu := elem_of he
  have hne : es ≠ 0 := by omega
  rcases onSl_inv ev (by simp) with ⟨rfl, e1⟩ | ⟨b, q, len, cap, es0, rfl, e1⟩
  · have hS : S = .slice none 0 0 := by simpa [con] using hs.symm
    subst hS
    cases hn0 : Nat.beq n 0 with
    | true =>
      have hn0' := Nat.eq_of_beq_eq_true hn0
      subst hn0'
      rw [hn0, sw_true] at e1
      cases e1
      have hnews : news = [] := by apply List.eq_nil_of_length_eq_zero; rw [hnn]; simp
      exact ⟨_, w, ρ, room_run ht hu hi his hint hlen (hfirst w rfl) (Nat.le_refl _) ⟨(fun A hA => by cases hA), fun _ => rfl⟩, Ext.refl R, rfl⟩
    | false =>
      rw [hn0, sw_false] at e1
      have hn0' : n ≠ 0 := by intro e; subst e; simp at hn0
      obtain ⟨c, newCap, w', hrun, hh, hos, htp, hout, hsize, hge, hget⟩ := grow_run (ty := ty) (base := none) (len := 0) (cap := 0) (olds := []) ht hu hi hZ hZs his hpos hbytes hint hlen (fun w' _ => rfl) hfirst (by simp) hnn (by omega) (by omega)
      have hnl := conL_length hnew
      have hR : BRel (ρ.put h.nx ⟨w.heap.size, 0, newCap * es, none⟩) σ ⟨w.heap.size, 0, newCap * es, none⟩ (some (.cells c e)) (.cells new e false false) := by
        refine ⟨c, (0, 0), rfl, cellsOk_grown (conL_mono (Rho.le_put (R.fresh_none (Nat.le_refl _))) _ _ hnew) hcell hsize ?_ ?_⟩
        · rw [← hnl, hnn]; exact Nat.mul_le_mul_right _ (by omega)
        · intro j hj
          rw [hget j (by rw [Nat.zero_add, ← hnn, hnl]; exact hj)]; simp
      obtain ⟨rfl, E⟩ := fresh_ok (w' := w') (p := ⟨w.heap.size, 0, newCap * es, none⟩) R e1 rfl hR hh hos htp hout
      refine ⟨_, w', _, hrun, E, ?_⟩
      rw [con_slice_mk (Rho.put_same ..) (.inr (by show 0 + 0 + n * es ≤ newCap * es; have := Nat.mul_le_mul_right es (show n ≤ newCap by omega); omega)), if_neg hne]
      simp only [Nat.add_zero, Nat.sub_zero, Nat.zero_add]
      rw [Nat.mul_div_cancel _ hpos]
  · obtain ⟨p, hp, hS, hfit⟩ := con_slice hs
    subst hS
    obtain ⟨hneed, e2⟩ := sw_inv e1 (by simp)
    have hneed := Nat.le_of_ble_eq_true hneed
    have hneed : len + n ≤ mostLen := hneed
    cases hes : Nat.beq es0 0 with
    | true =>
      have hes' := Nat.eq_of_beq_eq_true hes
      subst hes'
      rw [hes, sw_true] at e2
      rw [if_pos rfl]
      cases hroom : Nat.ble (Nat.add len n) cap with
      | true =>
        rw [hroom, sw_true] at e2
        have hroom := Nat.le_of_ble_eq_true hroom
        obtain ⟨h2, w', e3, hst, E⟩ := stL_ok R hp hnew hcell e2 (by simp)
        cases e3
        refine ⟨_, w', ρ, room_run ht hu hi his hint hlen (hfirst w rfl) hroom ⟨fun A hA => ?_, fun hA => by cases hA⟩, E, ?_⟩
        · cases hA
          rw [addr_add]
          have : p.base + q + len * es = p.base + Nat.add q (Nat.mul len es) := by show _ = p.base + (q + len * es); omega
          rw [this]; exact hst
        · rw [con_slice_mk hp (.inl rfl), if_pos rfl]; rfl
      | false =>
        rw [hroom, sw_false] at e2
        have hroom : ¬ (len + n ≤ cap) := fun hc => by
          have : Nat.ble (Nat.add len n) cap = true := Nat.ble_eq_true_of_le hc
          rw [hroom] at this; cases this
        obtain ⟨l, el, ro, wh, hb, e3⟩ := onCells_inv e2 (by simp)
        obtain ⟨old, hold, e4⟩ := onOpt_inv e3 (by simp)
        obtain ⟨hlive, c0, fz, hh0, H0⟩ := live_cells R hp hb
        obtain ⟨olds, ho1, ho2, ho3, ho4⟩ := firstCells_run (P := P) hh0 H0 hold len cap
        obtain ⟨c, newCap, w', hrun, hh, hos, htp, hout, hsize, hge, hget⟩ := grow_run (ty := ty) (base := some ⟨p.blk, p.base + q, none⟩) (len := len) (cap := cap) ht hu hi hZ hZs his hpos hbytes hint hlen ho4 hfirst ho3 hnn (by omega) hneed
        have hcat := conL_append ho1 hnew
        have hcl := conL_length hcat
        rw [List.length_append, ho3, hnn, ← Nat.add_mul] at hcl
        have hR : BRel (ρ.put h.nx ⟨w.heap.size, 0, newCap * es, none⟩) σ ⟨w.heap.size, 0, newCap * es, none⟩ (some (.cells c e)) (.cells (catX old new) e false false) := by
          rw [catX_eq]
          refine ⟨c, (0, 0), rfl, cellsOk_grown (conL_mono (Rho.le_put (R.fresh_none (Nat.le_refl _))) _ _ hcat) (by rw [List.all_append, ho2, hcell]; rfl) hsize ?_ ?_⟩
          · rw [← hcl]; exact Nat.mul_le_mul_right _ hge
          · intro j hj
            exact hget j (by rw [hcl]; exact hj)
        obtain ⟨rfl, E⟩ := fresh_ok (w' := w') (p := ⟨w.heap.size, 0, newCap * es, none⟩) R e4 rfl hR hh hos htp hout
        refine ⟨_, w', _, hrun, E, ?_⟩
        have hmul := Nat.mul_le_mul_right es hge
        show con _ σ (.slice h.nx 0 (len + n) 0 es) = _
        rw [con_slice_mk (Rho.put_same ..) (.inr (by show 0 + 0 + (len + n) * es ≤ newCap * es; omega)), if_neg hne]
        simp only [Nat.add_zero, Nat.sub_zero]
        rw [Nat.mul_div_cancel _ hpos]
    | false =>
      rw [hes, sw_false] at e2
      obtain ⟨hq, e3⟩ := sw_inv e2 (by simp)
      have hq := Nat.eq_of_beq_eq_true hq
      subst hq
      rw [if_neg hne]
      have hfit := hfit.resolve_left hne
      have hlencap : len ≤ (p.size - (p.base + q)) / es0 := (Nat.le_div_iff_mul_le hpos).2 (by omega)
      cases hn0 : Nat.beq n 0 with
      | true =>
        have hn0' := Nat.eq_of_beq_eq_true hn0
        subst hn0'
        rw [hn0, sw_true] at e3
        cases e3
        have hnews : news = [] := by apply List.eq_nil_of_length_eq_zero; rw [hnn]; simp
        refine ⟨_, w, ρ, room_run ht hu hi his hint hlen (hfirst w rfl) (by omega) ⟨fun A hA => by rw [hnews]; rfl, fun _ => rfl⟩, Ext.refl R, ?_⟩
        rw [con_slice_mk hp (.inr hfit), if_neg hne]
        rfl
      | false =>
        rw [hn0, sw_false] at e3
        obtain ⟨l, el, ro, wh, hb, e4⟩ := onCells_inv e3 (by simp)
        cases hro : orB ro (notB (Nat.beq el e)) with
        | true => rw [hro, sw_true] at e4; cases e4
        | false =>
        rw [hro, sw_false] at e4
        simp only [orB_eq, notB_eq, beq_dec, Bool.or_eq_false_iff, Bool.not_eq_false', decide_eq_true_eq] at hro
        obtain ⟨hro, rfl⟩ := hro
        subst hro
        obtain ⟨old, hold, e5⟩ := onOpt_inv e4 (by simp)
        obtain ⟨hlive, c0, fz, hh0, H0⟩ := live_cells R hp hb
        obtain ⟨olds, ho1, ho2, ho3, ho4⟩ := firstCells_run (P := P) hh0 H0 hold len ((p.size - (p.base + q)) / es0)
        have hcat := conL_append ho1 hnew
        have hcl := conL_length hcat
        rw [List.length_append, ho3, hnn, ← Nat.add_mul] at hcl
        have hall : (old ++ new).all isCell = true := by rw [List.all_append, ho2, hcell]; rfl
        have hnl := conL_length hnew
        have hol := conL_length ho1
        obtain ⟨hlt, e6⟩ := sw_inv e5 (by simp)
        rw [blt_dec, decide_eq_true_eq] at hlt
        have hlt : h.nx < most := hlt
        rw [catX_eq] at e6
        have hle := Rho.le_put (p := (⟨p.blk, p.base + q, p.size, none⟩ : Place)) (R.fresh_none (Nat.le_refl h.nx))
        by_cases hroom : len + n ≤ (p.size - (p.base + q)) / es0
        · -- there is room: the block is written, and taken on under a new number
          have hneedsz : (len + n) * es0 ≤ p.size - (p.base + q) := (Nat.le_div_iff_mul_le hpos).1 hroom
          rw [Nat.add_mul] at hneedsz
          have hsz0 := H0.size
          have hst := storeCells_run (P := P) (off := p.base + q + len * es0) news 0 c0 w hh0 (by rw [hnn]; omega) (fun j h1 h2 => H0.free rfl j (by omega) (by rw [hnn] at h2; omega)) (one_all hcell hnew)
          rw [Nat.add_zero] at hst
          have hblt : p.blk < w.heap.size := (Array.getElem?_eq_some_iff.1 hh0).1
          let w' : World := { w with heap := w.heap.setIfInBounds p.blk (.cells (over c0 (p.base + q + len * es0) news) el fz) }
          have hR : BRel (ρ.put h.nx ⟨p.blk, p.base + q, p.size, none⟩) σ ⟨p.blk, p.base + q, p.size, none⟩ w'.heap[p.blk]? (.cells (old ++ new) el false false) := by
            show BRel _ σ _ (w.heap.setIfInBounds p.blk _)[p.blk]? _
            rw [Array.getElem?_setIfInBounds, if_pos rfl, if_pos hblt]
            refine ⟨_, fz, rfl, ?_, ?_, ?_, ?_, by simp, by simp⟩
            · rw [over_size]; exact hsz0
            · show p.base + q + (old ++ new).length ≤ p.size
              rw [← hcl, Nat.add_mul]; omega
            · intro j u hj
              have hjl : j < (old ++ new).length := (List.getElem?_eq_some_iff.1 hj).1
              refine ⟨List.all_eq_true.1 hall u (List.mem_of_getElem? hj), ?_⟩
              obtain ⟨y, hy, hcy⟩ := conL_get hcat hj
              refine ⟨y, con_mono hle u y hcy, ?_⟩
              show (over c0 (p.base + q + len * es0) news)[p.base + q + j]? = some y
              rw [over_get _ _ _ _ (by rw [hnn]; omega)]
              by_cases hjo : j < olds.length
              · rw [if_neg (by omega)]
                rw [List.getElem?_append_left hjo] at hy
                -- an old element
                have hju : (List.take (len * es0) (List.drop q l))[j]? = some u := by
                  rw [dropX_eq] at hold
                  have hold' : takeX (len * es0) (List.drop q l) = some old := hold
                  obtain ⟨_, hold2⟩ := takeX_some hold'
                  rw [List.getElem?_append_left (by omega)] at hj
                  rw [← hold2]; exact hj
                rw [List.getElem?_take, if_pos (by omega), List.getElem?_drop] at hju
                obtain ⟨_, z, hz, hcz⟩ := H0.cell (q + j) u hju
                rw [hcy] at hz; cases hz
                rw [Nat.add_assoc]; exact hcz
              · have hj1 : len * es0 ≤ j := by rw [← ho3]; exact Nat.le_of_not_lt hjo
                have hj2 : j < len * es0 + n * es0 := by rw [← Nat.add_mul, hcl]; exact hjl
                rw [if_pos (by rw [hnn]; omega)]
                rw [List.getElem?_append_right (Nat.le_of_not_lt hjo)] at hy
                have hidx : p.base + q + j - (p.base + q + len * es0) = j - olds.length := by rw [ho3]; omega
                rw [hidx]; exact hy
            · intro _ j h1 h2
              exact H0.free rfl j (by have : p.base + q ≤ j := h1; omega) h2
          have E := Ext.move (w' := w') R hlive hp hlt (p' := ⟨p.blk, p.base + q, p.size, none⟩) rfl (.cells (old ++ new) el false false) (by show (w.heap.setIfInBounds _ _).size = _; simp) (fun k hk => by
            show (w.heap.setIfInBounds p.blk _)[k]? = _
            rw [Array.getElem?_setIfInBounds, if_neg (Ne.symm hk)]) hR rfl rfl rfl
          cases e6
          refine ⟨_, w', _, room_run ht hu hi his hint hlen (hfirst w rfl) hroom ⟨fun A hA => ?_, fun hA => by cases hA⟩, E, ?_⟩
          · cases hA
            rw [addr_add]
            exact hst
          · show con _ σ (.slice h.nx 0 (len + n) 0 es0) = _
            rw [con_slice_mk (Rho.put_same ..) (.inr (by show p.base + q + 0 + (len + n) * es0 ≤ p.size; rw [Nat.add_mul]; omega)), if_neg hne]
            rfl
        · -- there is none: a new block; the old one is given up all the same
          obtain ⟨c, newCap, w', hrun, hh, hos, htp, hout, hsize, hge, hget⟩ := grow_run (ty := ty) (base := some ⟨p.blk, p.base + q, none⟩) (len := len) (cap := (p.size - (p.base + q)) / es0) ht hu hi hZ hZs his hpos hbytes hint hlen ho4 hfirst ho3 hnn (by omega) hneed
          have E1 := Ext.turn R hlive hp .dead w rfl (fun _ _ => rfl) trivial rfl rfl rfl
          have hR : BRel (ρ.put (hput h b .dead).nx ⟨w.heap.size, 0, newCap * es0, none⟩) σ ⟨w.heap.size, 0, newCap * es0, none⟩ (some (.cells c el)) (.cells (old ++ new) el false false) := by
            refine ⟨c, (0, 0), rfl, cellsOk_grown (conL_mono (Rho.le_put (R.fresh_none (Nat.le_refl _))) _ _ hcat) hall hsize ?_ ?_⟩
            · rw [← hcl]; exact Nat.mul_le_mul_right _ hge
            · intro j hj
              exact hget j (by rw [hcl]; exact hj)
          have E2 := Ext.alloc E1.rel (h := hput h b .dead) hlt (.cells c el) (.cells (old ++ new) el false false) ⟨w.heap.size, 0, newCap * es0, none⟩ rfl hR w' hh hos htp hout
          cases e6
          refine ⟨_, w', _, hrun, E1.trans R E2, ?_⟩
          have hmul := Nat.mul_le_mul_right es0 hge
          show con (ρ.put h.nx ⟨w.heap.size, 0, newCap * es0, none⟩) σ (.slice h.nx 0 (len + n) 0 es0) = _
          rw [con_slice_mk (Rho.put_same ..) (.inr (by show 0 + 0 + (len + n) * es0 ≤ newCap * es0; omega)), if_neg hne]
          simp only [Nat.add_zero, Nat.sub_zero]
          rw [Nat.mul_div_cancel _ hpos]
end
end Go.Proofs.YteahdpjeoeeemaaGreatDoor.Ax

namespace Go.Proofs.YteahdpjeoeeemaaGreatDoor.Ax
set_option linter.unusedVariables false
set_option linter.unusedSimpArgs false
set_option linter.unnecessarySimpa false

section
variable {P : Program} {σ : Nat → ByteArray} {nt : Nat} {o : Oper}

theorem Nat.min_zero' (n : Nat) : Nat.min n 0 = 0 := Nat.min_zero n
theorem append_run {x y : Operand} {ts : Array TypeId} {a : Act} {w w' : World} {Z : Value} (ho : o.op = .call { callee := .builtin .append, args := #[x, y], argTypes := ts })
    (h : (Builtin.append_ ts o.type #[a.eval x, a.eval y]).run P w = .ok Z w') : (execOp a.eval o).run P w = .ok (.value Z) w' := by
  simp only [execOp, ho, resolve]
  simp [invoke, builtin, h]
theorem copy_run {x y : Operand} {ts : Array TypeId} {a : Act} {w w' : World} {Z : Value} (ho : o.op = .call { callee := .builtin .copy, args := #[x, y], argTypes := ts })
    (h : (Builtin.copy_ ts o.type #[a.eval x, a.eval y]).run P w = .ok Z w') : (execOp a.eval o).run P w = .ok (.value Z) w' := by
  simp only [execOp, ho, resolve]
  simp [invoke, builtin, h]
theorem unsafeStr_run {x y : Operand} {ts : Array TypeId} {a : Act} {w w' : World} {Z : Value} (ho : o.op = .call { callee := .builtin .unsafeString, args := #[x, y], argTypes := ts })
    (h : (Builtin.unsafeString_ ts o.type #[a.eval x, a.eval y]).run P w = .ok Z w') : (execOp a.eval o).run P w = .ok (.value Z) w' := by
  simp only [execOp, ho, resolve]
  simp [invoke, builtin, h]
/-- the bytes of a text as cells, to the model -/
theorem strCells_run {t : List Nat} (ht : t.all (· < 256) = true) (m : Nat) (w' : World) :
    (Builtin.firstCells 1 m (.string ⟨(t.map UInt8.ofNat).toArray⟩)).run P w' = .ok ((t.take m).map fun (c : Nat) => Value.int .u8 (c : Int)).toArray w' := by
  have he : ((ByteArray.extract ⟨(t.map UInt8.ofNat).toArray⟩ 0 m).data.map fun b => Value.int .u8 (b.toNat : Int)) = ((t.take m).map fun (c : Nat) => Value.int .u8 (c : Int)).toArray := by
    rw [ByteArray.data_extract]
    apply Array.ext'
    rw [Array.toList_map, Array.toList_extract]
    simp only [Nat.sub_zero, List.extract_eq_take_drop, List.drop_zero, List.map_map, ← List.map_take]
    apply List.map_congr_left
    intro c hc
    have : c < 256 := by simpa using List.all_eq_true.1 ht c (List.mem_of_mem_take hc)
    simp [Nat.mod_eq_of_lt this]
  show (pure _ : Sem (Array Value)).run P w' = _
  rw [Sem.run_pure, he]
theorem append_ok {ts : Array TypeId} {t : TypeId} {e es : Nat} {x y : Operand} (ho : o.op = .call { callee := .builtin .append, args := #[x, y], argTypes := ts }) (hx : okOpd P nt x = true) (hy : okOpd P nt y = true)
    (ht : ts[0]? = some t) (he : elemOfSl P t = some e) (hg : growElem P e = some es) (hint : intLike P ts[1]? = false) :
    TurnOk P σ nt o (fun r h => appendV e es h ((cOpd x).run r) ((cOpd y).run r)) := by
  intro ρ h w r a v h' C ev
  have h1 := C.opd hx
  have h2 := C.opd hy
  change appendV e es h ((cOpd x).run r) ((cOpd y).run r) = .ok v h' at ev
  generalize (cOpd x).run r = s at h1 ev
  generalize hyv : (cOpd y).run r = u at h2 ev
  suffices H : ∃ Z w' ρ', (Builtin.append_ ts o.type #[a.eval x, a.eval y]).run P w = .ok Z w' ∧ Ext P.globals.size σ ρ h w ρ' h' w' ∧ con ρ' σ v = some Z by
    obtain ⟨Z, w', ρ', hr, E, hc⟩ := H
    exact ⟨_, Z, w', ρ', append_run ho hr, .inl rfl, E, hc⟩
  by_cases hstr : ∃ t', u = .str t'
  · obtain ⟨t', rfl⟩ := hstr
    obtain ⟨hc, ev⟩ := sw_inv (show sw (andB (Nat.beq es 1) (Nat.ble (lenX t') mostLen)) (appendL e es h s (lenX t') (cellsB t')) .no = .ok v h' from ev) (by simp)
    simp only [andB_eq, beq_dec, ble_dec, Bool.and_eq_true, decide_eq_true_eq] at hc
    obtain ⟨rfl, hlen⟩ := hc
    rw [lenX_eq] at ev hlen
    obtain ⟨hall, hX⟩ := con_str h2
    rw [hX]
    refine appendL_ok C.rel ht he hg hint h1 (by simp [Builtin.lenOf, str_size]) (fun w' hw => ?_) (conL_cellsB t') (all_cellsB t') (by simp) hlen ev
    rw [strCells_run hall, List.take_length]
  · rcases onSl_inv (show onSl u (appendL e es h s 0 []) (fun b o n _ _ => sw (Nat.ble n mostLen) (ldL h b o (Nat.mul n es) (fun new => appendL e es h s n new) .no) .no) .no = .ok v h' by
      cases u <;> first | exact ev | (exact absurd ⟨_, rfl⟩ hstr)) (by simp) with ⟨rfl, ev⟩ | ⟨b, q, n, c, es', rfl, ev⟩
    · have hX : a.eval y = .slice none 0 0 := by simpa [con] using h2.symm
      rw [hX]
      exact appendL_ok C.rel ht he hg hint h1 (news := []) rfl (fun w' hw => rfl) rfl rfl (by simp) (Nat.zero_le _) ev
    · obtain ⟨p, hp, hX, _⟩ := con_slice h2
      rw [hX]
      obtain ⟨hn, ev⟩ := sw_inv ev (by simp)
      obtain ⟨l, el, ro, wh, hb, ev⟩ := onCells_inv ev (by simp)
      obtain ⟨new, hnew, ev⟩ := onOpt_inv ev (by simp)
      obtain ⟨_, c0, fz, hh, H⟩ := live_cells C.rel hp hb
      obtain ⟨xs, hx1, hx2, hx3, hx4⟩ := firstCells_run (P := P) hh H hnew n (if es' = 0 then c else (p.size - (p.base + q)) / es')
      exact appendL_ok C.rel ht he hg hint h1 rfl hx4 hx1 hx2 hx3 (Nat.le_of_ble_eq_true hn) ev

/-! copies -/
theorem copy_ok {ts : Array TypeId} {t : TypeId} {e : Nat} {i : TypeInfo} {x y : Operand} (ho : o.op = .call { callee := .builtin .copy, args := #[x, y], argTypes := ts }) (hx : okOpd P nt x = true) (hy : okOpd P nt y = true)
    (ht : ts[0]? = some t) (he : elemOfSl P t = some e) (hi : P.info? e = some i) :
    TurnOk P σ nt o (fun r h => copyV i.size h ((cOpd x).run r) ((cOpd y).run r)) := by
  intro ρ h w r a v h' C ev
  have h1 := C.opd hx
  have h2 := C.opd hy
  change copyV i.size h ((cOpd x).run r) ((cOpd y).run r) = .ok v h' at ev
  generalize (cOpd x).run r = s at h1 ev
  generalize hyv : (cOpd y).run r = u at h2 ev
  have hu := elem_of he
  have hsz : sizeT P e = i.size := by simp [sizeT, hi]
  suffices H : ∃ Z w', (Builtin.copy_ ts o.type #[a.eval x, a.eval y]).run P w = .ok Z w' ∧ Ext P.globals.size σ ρ h w ρ h' w' ∧ con ρ σ v = some Z by
    obtain ⟨Z, w', hr, E, hc⟩ := H
    exact ⟨_, Z, w', ρ, copy_run ho hr, .inl rfl, E, hc⟩
  -- the run, from its parts
  have fin : ∀ (base : Option Addr) (len cap n : Nat) (cs : List Value) (w' : World), a.eval x = .slice base len cap → (Builtin.lenOf (a.eval y)).run P w = .ok n w →
      (Builtin.firstCells i.size (Nat.min n len) (a.eval y)).run P w = .ok cs.toArray w → (∀ A, base = some A → (storeCells A cs).run P w = .ok () w') → (base = none → w' = w) →
      (Builtin.copy_ ts o.type #[a.eval x, a.eval y]).run P w = .ok (goInt (Nat.min n len)) w' := by
    intro base len cap n cs w' hX hlen hfirst hst hno
    unfold Builtin.copy_
    simp only [ht, List.getElem?_toArray, List.getElem?_cons_zero, List.getElem?_cons_succ, hX]
    simp only [Sem.run_bind, run_underlying' hu, Result.andThen_ok, hlen, sizeT_run hi, hsz, hfirst]
    cases base with
    | none => simp only [Sem.run_pure, Result.andThen_ok, hno rfl]
    | some A => simp only [Sem.run_bind, hst A rfl, Result.andThen_ok, Sem.run_pure]
  have hmin : ∀ n len : Nat, sw (Nat.ble n len) n len = Nat.min n len := fun n len => by
    rw [ble_dec, sw_if]
    by_cases hc : n ≤ len
    · rw [decide_eq_true hc, if_pos rfl]; exact (Nat.min_eq_left hc).symm
    · rw [decide_eq_false hc, if_neg (by simp)]; exact (Nat.min_eq_right (by omega)).symm
  rcases onSl_inv ev (by simp) with ⟨rfl, e1⟩ | ⟨b, q, len, cap, es, rfl, e1⟩
  · have hX : a.eval x = .slice none 0 0 := by simpa [con] using h1.symm
    rcases onSl_inv e1 (by simp) with ⟨rfl, e2⟩ | ⟨b, q, n, c, es', rfl, e2⟩
    · cases e2
      have hY : a.eval y = .slice none 0 0 := by simpa [con] using h2.symm
      exact ⟨_, w, fin none 0 0 0 [] w hX (by rw [hY]; rfl) (by rw [hY]; rfl) (fun A hA => by cases hA) (fun _ => rfl), Ext.refl C.rel, con_int_mk (by decide) _⟩
    · cases e2
      obtain ⟨p, hp, hY, _⟩ := con_slice h2
      refine ⟨_, w, fin none 0 0 n [] w hX (by rw [hY]; rfl) ?_ (fun A hA => by cases hA) (fun _ => rfl), Ext.refl C.rel, ?_⟩
      · rw [hY, Nat.min_zero']
        show (loadCells _ (0 * i.size)).run P w = _
        rw [Nat.zero_mul]; rfl
      · rw [Nat.min_zero']; exact con_int_mk (by decide) _
  · obtain ⟨p, hp, hX, _⟩ := con_slice h1
    -- cells that are there, stored
    have go : ∀ (n : Nat) (vs : List AV) (xs : List Value), (Builtin.lenOf (a.eval y)).run P w = .ok n w → (Builtin.firstCells i.size (Nat.min n len) (a.eval y)).run P w = .ok xs.toArray w →
        conL ρ σ vs = some xs → vs.all isCell = true → stL h b q vs (fun h' => RH.ok (.int 3 (Int.ofNat (Nat.min n len))) h') .no = .ok v h' →
        ∃ Z w', (Builtin.copy_ ts o.type #[a.eval x, a.eval y]).run P w = .ok Z w' ∧ Ext P.globals.size σ ρ h w ρ h' w' ∧ con ρ σ v = some Z := by
      intro n vs xs hl hf hc hall hst
      obtain ⟨h2, w', e2, hrun, E⟩ := stL_ok C.rel hp hc hall hst (by simp)
      cases e2
      exact ⟨_, w', fin _ _ _ n xs w' hX hl hf (fun A hA => by cases hA; exact hrun) (fun hA => by cases hA), E, con_int_mk (by decide) _⟩
    by_cases hstr : ∃ t', u = .str t'
    · obtain ⟨t', rfl⟩ := hstr
      obtain ⟨hall, hY⟩ := con_str h2
      obtain ⟨hes, e3⟩ := sw_inv (show sw (Nat.beq i.size 1) (onOpt (takeX (sw (Nat.ble (lenX t') len) (lenX t') len) (cellsB t')) (fun vs => stL h b q vs (fun h' => RH.ok (.int 3 (Int.ofNat (sw (Nat.ble (lenX t') len) (lenX t') len))) h') .no) .no) .no = .ok v h' from e1) (by simp)
      have hes := Nat.eq_of_beq_eq_true hes
      rw [hmin, lenX_eq] at e3
      obtain ⟨vs, hvs, e4⟩ := onOpt_inv e3 (by simp)
      obtain ⟨hle, rfl⟩ := takeX_some hvs
      refine go t'.length _ ((t'.take (Nat.min t'.length len)).map fun (c : Nat) => Value.int .u8 (c : Int)) (by rw [hY]; simp [Builtin.lenOf, str_size]) ?_ ?_ ?_ e4
      · rw [hY, hes]; exact strCells_run hall _ w
      · have := conL_take (Nat.min t'.length len) (conL_cellsB (ρ := ρ) (σ := σ) t')
        rw [← List.map_take] at this; exact this
      · refine List.all_eq_true.2 fun u hu => List.all_eq_true.1 (all_cellsB t') u (List.mem_of_mem_take hu)
    · rcases onSl_inv (show onSl u (RH.ok (.int 3 (Int.ofNat 0)) h) (fun b' o' n _ _ => onOpt (ldL h b' o' (Nat.mul (sw (Nat.ble n len) n len) i.size) (fun l => some l) none) (fun vs => stL h b q vs (fun h' => RH.ok (.int 3 (Int.ofNat (sw (Nat.ble n len) n len))) h') .no) .no) .no = .ok v h' by
        cases u <;> first | exact e1 | (exact absurd ⟨_, rfl⟩ hstr)) (by simp) with ⟨rfl, e3⟩ | ⟨b', q', n, c, es', rfl, e3⟩
      · cases e3
        have hY : a.eval y = .slice none 0 0 := by simpa [con] using h2.symm
        have hz : Nat.min 0 len = 0 := Nat.zero_min len
        refine ⟨_, w, fin _ _ _ 0 [] w hX (by rw [hY]; rfl) (by rw [hY]; rfl) (fun A hA => rfl) (fun _ => rfl), Ext.refl C.rel, ?_⟩
        rw [hz]; exact con_int_mk (by decide) _
      · obtain ⟨p', hp', hY, _⟩ := con_slice h2
        rw [hmin] at e3
        obtain ⟨vs, hvs, e4⟩ := onOpt_inv e3 (by simp)
        obtain ⟨l, el, ro, wh, hb, e5⟩ := onCells_inv hvs (by simp)
        obtain ⟨vs', hvs', e6⟩ := onOpt_inv e5 (by simp)
        cases e6
        obtain ⟨_, c0, fz, hh, H⟩ := live_cells C.rel hp' hb
        obtain ⟨xs, hx1, hx2, hx3, hx4⟩ := firstCells_run (P := P) hh H hvs' n (if es' = 0 then c else (p'.size - (p'.base + q')) / es')
        exact go n vs xs (by rw [hY]; rfl) (by rw [hY]; exact hx4 w rfl) hx1 hx2 e4
end
end Go.Proofs.YteahdpjeoeeemaaGreatDoor.Ax

namespace Go.Proofs.YteahdpjeoeeemaaGreatDoor.Ax
set_option linter.unusedVariables false
set_option linter.unusedSimpArgs false
set_option linter.unnecessarySimpa false

section
variable {P : Program} {σ : Nat → ByteArray} {nt : Nat} {o : Oper}

theorem modify_split {α : Type} {es : Array α} {j : Nat} {e : α} (f : α → α) (h : es[j]? = some e) : es.toList = es.toList.take j ++ e :: es.toList.drop (j + 1) ∧ (es.modify j f).toList = es.toList.take j ++ f e :: es.toList.drop (j + 1) := by
  have hj : j < es.toList.length := by
    have := (Array.getElem?_eq_some_iff.1 h).1
    simpa using this
  have h' : es.toList[j]? = some e := by simpa using h
  have hd : es.toList.drop j = e :: es.toList.drop (j + 1) := by
    rw [List.drop_eq_getElem_cons hj]
    congr 1
    rw [List.getElem?_eq_getElem hj] at h'
    simpa using h'
  refine ⟨?_, ?_⟩
  · conv => lhs; rw [← List.take_append_drop j es.toList]
    rw [hd]
  · apply List.ext_getElem?
    intro k
    rw [Array.getElem?_toList, Array.getElem?_modify]
    by_cases hk : j = k
    · subst hk
      rw [if_pos rfl, h, List.getElem?_append_right (by simp [List.length_take]; omega)]
      have hj3 : j ≤ es.size := by simpa using Nat.le_of_lt hj
      simp [List.length_take, Nat.min_eq_left hj3]
    · rw [if_neg hk]
      have hs : es.toList = es.toList.take j ++ e :: es.toList.drop (j + 1) := by
        conv => lhs; rw [← List.take_append_drop j es.toList]
        rw [hd]
      rw [← Array.getElem?_toList]
      conv => lhs; rw [hs]
      have hl : (es.toList.take j).length = j := by rw [List.length_take, Nat.min_eq_left (Nat.le_of_lt hj)]
      by_cases hlt : k < j
      · rw [List.getElem?_append_left (by omega), List.getElem?_append_left (by omega)]
      · rw [List.getElem?_append_right (by omega), List.getElem?_append_right (by omega), hl]
        obtain ⟨m, hm⟩ : ∃ m, k - j = m + 1 := ⟨k - j - 1, by omega⟩
        rw [hm]
        simp
theorem keys_sort {ρ : Rho} {es : Array MapEntry} {l : List (AV × AV)} (M : MapOk ρ σ es l) {x u v : AV} {A B : List (AV × AV)} (hl : l = A ++ (x, u) :: B) :
    (∀ a ∈ A ++ (x, v) :: B, ∀ b ∈ A ++ (x, v) :: B, sameSort a.1 b.1 = true) ∧ (A ++ (x, v) :: B).Pairwise fun a b => a.1 ≠ b.1 := by
  have hmem : ∀ a ∈ A ++ (x, v) :: B, ∃ a' ∈ l, a'.1 = a.1 := by
    intro a ha
    rcases List.mem_append.1 ha with h | h
    · exact ⟨a, by rw [hl]; exact List.mem_append.2 (.inl h), rfl⟩
    · cases h with
      | head => exact ⟨(x, u), by rw [hl]; simp, rfl⟩
      | tail _ h => exact ⟨a, by rw [hl]; exact List.mem_append.2 (.inr (List.mem_cons_of_mem _ h)), rfl⟩
  refine ⟨fun a ha b hb => ?_, ?_⟩
  · obtain ⟨a', ha', e1⟩ := hmem a ha
    obtain ⟨b', hb', e2⟩ := hmem b hb
    rw [← e1, ← e2]; exact M.sort a' ha' b' hb'
  · have := M.apart
    rw [hl] at this
    have h1 : (A ++ (x, u) :: B).map (·.1) = (A ++ (x, v) :: B).map (·.1) := by simp
    have h2 : ∀ m : List (AV × AV), m.Pairwise (fun a b => a.1 ≠ b.1) ↔ (m.map (·.1)).Pairwise (· ≠ ·) := fun m => by rw [List.pairwise_map]
    rw [h2, ← h1, ← h2]; exact this
theorem update_ok {t k e : TypeId} {m x y : Operand} (ho : o.op = .mapUpdate t m x y ∨ o.op = .insert t m x y) (hm : okOpd P nt m = true) (hx : okOpd P nt x = true) (hy : okOpd P nt y = true) (ht : mapOf P t = some (k, e)) :
    TurnOk P σ nt o (fun r h => updateV (keySort P k) h ((cOpd m).run r) ((cOpd x).run r) ((cOpd y).run r)) := by
  intro ρ h w r a v h' C ev
  have h1 := C.opd hm
  have h2 := C.opd hx
  have h3 := C.opd hy
  have hu : P.underlying t = some (.map k e) := by
    unfold mapOf at ht
    cases hu : P.underlying t with
    | none => rw [hu] at ht; cases ht
    | some d => rw [hu] at ht; cases d <;> simp at ht; obtain ⟨rfl, rfl⟩ := ht; rfl
  change updateV (keySort P k) h ((cOpd m).run r) ((cOpd x).run r) ((cOpd y).run r) = .ok v h' at ev
  generalize (cOpd m).run r = mv at h1 ev
  generalize (cOpd x).run r = xv at h2 ev
  generalize (cOpd y).run r = yv at h3 ev
  obtain ⟨hkey, e1⟩ := sw_inv ev (by simp)
  obtain ⟨b, rfl, e2⟩ := onMap_inv e1 (by simp)
  obtain ⟨l, hb, e3⟩ := onMapB_inv e2 (by simp)
  obtain ⟨l', hl', e4⟩ := onOpt_inv e3 (by simp)
  cases e4
  obtain ⟨p, hp, hX⟩ := con_map h1
  obtain ⟨hlive, es, clock, hh, M, hborn⟩ := live_map_b C.rel hp hb
  have hlt : p.blk < w.heap.size := (Array.getElem?_eq_some_iff.1 hh).1
  have hcheck : (Instr.checkKey false 10000 k (a.eval x)).run P w = .ok () w := by
    obtain ⟨d, hd, hX, _⟩ := okKey_isKey hkey h2
    exact MapKept.run_checkKey hd hX false 9999
  suffices H : ∃ es' clock', (Instr.mapUpdate t (.map (some p.blk)) (a.eval x) (a.eval y)).run P w = .ok () { w with heap := w.heap.setIfInBounds p.blk (.map es' clock') } ∧ MapOk ρ σ es' l' ∧ Borns es' clock' by
    obtain ⟨es', clock', hr, M', hb'⟩ := H
    refine ⟨.skip, undef, _, ρ, ?_, .inr ⟨rfl, rfl⟩, Ext.turn C.rel hlive hp (.map l') { w with heap := w.heap.setIfInBounds p.blk (.map es' clock') } (by simp) (fun j hj => by
      show (w.heap.setIfInBounds p.blk _)[j]? = _
      rw [Array.getElem?_setIfInBounds, if_neg (Ne.symm hj)]) ⟨es', clock', by show (w.heap.setIfInBounds p.blk _)[p.blk]? = _; rw [Array.getElem?_setIfInBounds, if_pos rfl, if_pos hlt], M', hb'⟩ rfl rfl rfl, rfl⟩
    rcases ho with ho | ho
    · simp only [execOp, ho]
      refine run_u ?_
      rw [hX]; exact hr
    · simp only [execOp, ho]
      refine run_u ?_
      rw [hX]; exact hr
  rcases putE_inv hl' with ⟨A, u, B, hlA, rfl, hself⟩ | ⟨hno, rfl⟩
  · obtain ⟨j, en, hf, hje, hkk, hval⟩ := (find_run (w := w) M hkey h2 (sort_of_find M hlA)).2 A u B hlA
    refine ⟨es.modify j fun e => { e with key := a.eval x, val := a.eval y }, clock, ?_, ?_, ?_⟩
    · have hstay : (Instr.keyThatStays (a.eval x) (a.eval x)).run P w = .ok (a.eval x) w := by
        obtain ⟨d, hd, hX, _⟩ := okKey_isKey hkey h2
        exact MapKept.run_keyThatStays hX
      unfold Instr.mapUpdate
      simp only [Sem.run_bind, run_underlying' hu, Result.andThen_ok, MapKept.run_getObj_map hh, hcheck, hf, hje, Option.map_some, Option.getD_some, hkk, hstay, MapKept.run_setObj_map _ hh]
    · obtain ⟨hs1, hs2⟩ := modify_split (fun e : MapEntry => { e with key := a.eval x, val := a.eval y }) hje
      obtain ⟨hk1, hk2⟩ := keys_sort (v := yv) M hlA
      refine ⟨?_, hk1, hk2⟩
      obtain ⟨kvs, h4, h5⟩ := M.perm
      rw [hlA] at h4
      obtain ⟨ka, kb, h6, h7, rfl⟩ := conKV_append.1 h4
      obtain ⟨K, V, kt, h8, h9, h10, rfl⟩ := conKV_cons.1 h7
      rw [h2] at h8; cases h8
      rw [hval] at h9; cases h9
      refine ⟨ka ++ (a.eval x, a.eval y) :: kt, conKV_append.2 ⟨ka, _, h6, conKV_cons.2 ⟨_, _, kt, h2, h3, h10, rfl⟩, rfl⟩, ?_⟩
      rw [hs1] at h5
      rw [hs2]
      rw [List.map_append, List.map_cons] at h5 ⊢
      rw [hkk] at h5
      have h11 := (List.perm_middle.symm.trans (h5.trans List.perm_middle)).cons_inv
      exact List.perm_middle.trans ((h11.cons _).trans List.perm_middle.symm)
    · obtain ⟨hs1, hs2⟩ := modify_split (fun e : MapEntry => { e with key := a.eval x, val := a.eval y }) hje
      have hbm : (es.modify j fun e => { e with key := a.eval x, val := a.eval y }).toList.map (·.born) = es.toList.map (·.born) := by
        rw [hs2]; conv => rhs; rw [hs1]
        simp
      refine ⟨fun z hz => ?_, by rw [hbm]; exact hborn.2⟩
      have : z.born ∈ es.toList.map (·.born) := by rw [← hbm]; exact List.mem_map.2 ⟨z, hz, rfl⟩
      obtain ⟨z', hz', he⟩ := List.mem_map.1 this
      rw [← he]; exact hborn.1 z' hz'
  · have hf := (find_run (w := w) M hkey h2 (fun a ha => (hno a ha).2)).1 (fun a ha => (hno a ha).1)
    refine ⟨es.push { key := a.eval x, val := a.eval y, born := clock }, clock + 1, ?_, ?_, ?_⟩
    · unfold Instr.mapUpdate
      simp only [Sem.run_bind, run_underlying' hu, Result.andThen_ok, MapKept.run_getObj_map hh, hcheck, hf, MapKept.run_setObj_map _ hh]
    · obtain ⟨kvs, h4, h5⟩ := M.perm
      have hself : sameSort xv xv = true := by
        unfold okKey at hkey
        rcases onNum_inv hkey (by simp) with ⟨kk, n, rfl, _⟩ | ⟨s, rfl, _⟩ <;> simp [sameSort]
      refine ⟨⟨kvs ++ [(a.eval x, a.eval y)], conKV_append.2 ⟨kvs, _, h4, conKV_cons.2 ⟨_, _, [], h2, h3, rfl, rfl⟩, rfl⟩, ?_⟩, ?_, ?_⟩
      · rw [Array.toList_push, List.map_append]
        exact h5.append_right _
      · intro a1 ha1 b1 hb1
        rcases List.mem_append.1 ha1 with h | h <;> rcases List.mem_append.1 hb1 with h' | h'
        · exact M.sort a1 h b1 h'
        · simp only [List.mem_singleton] at h'; subst h'
          rw [sameSort_comm]; exact (hno a1 h).2
        · simp only [List.mem_singleton] at h; subst h
          exact (hno b1 h').2
        · simp only [List.mem_singleton] at h h'; subst h; subst h'
          exact hself
      · rw [List.pairwise_append]
        refine ⟨M.apart, List.pairwise_singleton _ _, fun a1 ha1 b1 hb1 => ?_⟩
        simp only [List.mem_singleton] at hb1; subst hb1
        exact (hno a1 ha1).1
    · refine ⟨fun z hz => ?_, ?_⟩
      · rw [Array.toList_push] at hz
        rcases List.mem_append.1 hz with h | h
        · have := hborn.1 z h; omega
        · simp only [List.mem_singleton] at h; subst h; exact Nat.lt_succ_self _
      · rw [Array.toList_push, List.map_append, List.nodup_append]
        refine ⟨hborn.2, by simp, ?_⟩
        intro n hn m hm2
        obtain ⟨z, hz, rfl⟩ := List.mem_map.1 hn
        simp only [List.map_cons, List.map_nil, List.mem_singleton] at hm2
        have := hborn.1 z hz
        omega

/-! strings that are gone through -/
theorem next_ok {it : Operand} (ho : o.op = .next it true) (hx : okOpd P nt it = true) : TurnOk P σ nt o (fun r h => nextV h ((cOpd it).run r)) := by
  intro ρ h w r a v h' C ev
  have h1 := C.opd hx
  obtain ⟨b, q, hb, e1⟩ := onPtr_inv ev (by simp)
  obtain ⟨hq, e2⟩ := sw_inv e1 (by simp)
  have hq := Nat.eq_of_beq_eq_true hq
  subst hq
  obtain ⟨s, pos, hs, e3⟩ := onSiter_inv e2 (by simp)
  rw [hb] at h1
  obtain ⟨p, hp, hX⟩ := con_ptr h1
  have hlive : Live h b := ⟨Nat.lt_of_lt_of_le (C.rel.dom b p hp) C.rel.nx, by rw [hs]; simp⟩
  obtain ⟨p', hp', hlt, hB⟩ := C.rel.live b hlive
  rw [hp] at hp'; cases hp'
  rw [hs] at hB
  obtain ⟨hbase, hall, hh⟩ := hB
  have hget : (getObj p.blk).run P w = .ok (.stringIter ⟨(s.map UInt8.ofNat).toArray⟩ pos) w := by simp [getObj, Sem.run, hh]
  have hsize : (⟨(s.map UInt8.ofNat).toArray⟩ : ByteArray).size = s.length := str_size s
  cases hd : dropX pos s with
  | nil =>
    rw [hd] at e3
    cases e3
    rw [dropX_eq] at hd
    have hle : s.length ≤ pos := List.drop_eq_nil_iff.1 hd
    refine ⟨_, .tuple #[.bool false], w, ρ, ?_, .inl rfl, Ext.refl C.rel, rfl⟩
    simp only [execOp, ho]
    refine run_v ?_
    rw [hX, hbase]
    unfold Instr.next
    simp only [Nat.add_zero, Sem.run_bind, hget, Result.andThen_ok, hsize]
    rw [if_neg (by omega)]
    rfl
  | cons c tl =>
    rw [hd] at e3
    obtain ⟨hc, e4⟩ := sw_inv e3 (by simp)
    cases e4
    rw [dropX_eq] at hd
    rw [blt_dec, decide_eq_true_eq] at hc
    have hget' : s[pos]? = some c := by
      have := congrArg (fun m => m[0]?) hd
      simpa using this
    have hpl : pos < s.length := (List.getElem?_eq_some_iff.1 hget').1
    have hdec : Utf8.decode ⟨(s.map UInt8.ofNat).toArray⟩ pos = (c, 1) := by
      have hb0 : ((⟨(s.map UInt8.ofNat).toArray⟩ : ByteArray).get! (pos + 0)).toNat = c := by
        have hp2 : pos < (s.map UInt8.ofNat).length := by simpa using hpl
        have : (⟨(s.map UInt8.ofNat).toArray⟩ : ByteArray).get! (pos + 0) = UInt8.ofNat c := by
          show ((s.map UInt8.ofNat).toArray)[pos + 0]! = _
          rw [Nat.add_zero, getElem!_pos _ _ (by simpa using hpl)]
          have : (s.map UInt8.ofNat)[pos]? = some (UInt8.ofNat c) := by simp [hget']
          rw [List.getElem?_eq_getElem hp2] at this
          simpa using this
        rw [this]
        simp; omega
      unfold Utf8.decode
      simp only [hb0]
      rw [if_pos hc]
    refine ⟨_, .tuple #[.bool true, goInt pos, .int .i32 c], { w with heap := w.heap.setIfInBounds p.blk (.stringIter ⟨(s.map UInt8.ofNat).toArray⟩ (pos + 1)) }, ρ, ?_, .inl rfl,
      Ext.turn C.rel hlive hp (.siter s (Nat.succ pos)) _ (by simp) (fun j hj => by
        show (w.heap.setIfInBounds p.blk _)[j]? = _
        rw [Array.getElem?_setIfInBounds, if_neg (Ne.symm hj)]) ⟨hbase, hall, by show (w.heap.setIfInBounds p.blk _)[p.blk]? = _; rw [Array.getElem?_setIfInBounds, if_pos rfl, if_pos hlt]⟩ rfl rfl rfl, ?_⟩
    · simp only [execOp, ho]
      refine run_v ?_
      rw [hX, hbase]
      unfold Instr.next
      have hset : ∀ ob, (setObj p.blk ob).run P w = .ok () { w with heap := w.heap.setIfInBounds p.blk ob } := fun ob => by simp [setObj, Sem.run, hh]
      simp only [Nat.add_zero, Sem.run_bind, hget, Result.andThen_ok, hsize]
      rw [if_pos hpl, hdec]
      simp only [Sem.run_bind, hset, Result.andThen_ok, Sem.run_pure]
    · exact con_tup_mk (conL_cons.2 ⟨_, _, rfl, conL_cons.2 ⟨_, _, con_int_mk (by decide) _, conL_cons.2 ⟨_, _, con_int_mk (by decide) _, rfl, rfl⟩, rfl⟩, rfl⟩)

/-! bytes that become a text -/
theorem liesAt_bytes {e : TypeId} (hc : P.cellsOf e = 1) (count off n : Nat) (hn : off + n ≤ count) : liesAt P P.depth e count off e n = true := by
  have hd : P.depth = (2 * (P.types.size + Made.depth) + 1) + 1 := rfl
  rw [hd]
  simp only [liesAt, Bool.or_eq_true]
  left
  rw [hd]
  have : off % 1 = 0 := Nat.mod_one off
  simp [rowAt, hc, hn, sameLayout, this]
theorem unsafeStr_ok {ts : Array TypeId} {t : TypeId} {u : Nat} {x y : Operand} (ho : o.op = .call { callee := .builtin .unsafeString, args := #[x, y], argTypes := ts }) (hx : okOpd P nt x = true) (hy : okOpd P nt y = true)
    (ht : ts[0]? = some t) (hb : byteElem P t = some u) : TurnOk P σ nt o (fun r h => unsafeStrV u h ((cOpd x).run r) ((cOpd y).run r)) := by
  intro ρ h w r a v h' C ev
  have h1 := C.opd hx
  have h2 := C.opd hy
  change unsafeStrV u h ((cOpd x).run r) ((cOpd y).run r) = .ok v h' at ev
  generalize (cOpd x).run r = pv at h1 ev
  generalize (cOpd y).run r = nv at h2 ev
  obtain ⟨kk, nn, rfl, e1⟩ := onInt_inv ev (by simp)
  obtain ⟨n, rfl, e2⟩ := onNat_inv e1 (by simp)
  obtain ⟨_, hY⟩ := con_int h2
  have hptr : P.underlying t = some (.pointer u) ∧ sizeT P u = 1 := by
    unfold byteElem at hb
    cases hu : P.underlying t with
    | none => rw [hu] at hb; cases hb
    | some d =>
      rw [hu] at hb
      cases d <;> try (cases hb; done)
      rename_i u'
      simp only at hb
      cases hu2 : P.underlying u' with
      | none => rw [hu2] at hb; cases hb
      | some d2 =>
        rw [hu2] at hb
        cases d2 <;> try (cases hb; done)
        rename_i k
        cases k <;> try (cases hb; done)
        simp only at hb
        split at hb
        · cases hb; exact ⟨rfl, by assumption⟩
        · cases hb
  obtain ⟨hu, hsz⟩ := hptr
  have hmax : IntKind.i64.max = 9223372036854775807 := rfl
  suffices H : ∃ Z w', (Builtin.unsafeString_ ts o.type #[a.eval x, a.eval y]).run P w = .ok Z w' ∧ Ext P.globals.size σ ρ h w ρ h' w' ∧ con ρ σ v = some Z by
    obtain ⟨Z, w', hr, E, hc⟩ := H
    exact ⟨_, Z, w', ρ, unsafeStr_run ho hr, .inl rfl, E, hc⟩
  cases h0 : Nat.beq n 0 with
  | true =>
    rw [h0, sw_true] at e2
    have h0 := Nat.eq_of_beq_eq_true h0
    subst h0
    have fin : ∀ q : Option Addr, a.eval x = .pointer q → (Builtin.unsafeString_ ts o.type #[a.eval x, a.eval y]).run P w = .ok (.string .empty) w := by
      intro q hq
      rw [hq, hY]
      change (bind (asInt (.int (kindOf kk) ((0 : Nat) : Int))) _ : Sem Value).run P w = _
      cases q <;> simp [asInt, asIntOf, hmax, ht]
    rcases onPtrN_inv e2 (by simp) with ⟨rfl, e3⟩ | ⟨b, q, rfl, e3⟩
    · cases e3
      exact ⟨_, w, fin none (by simpa [con] using h1.symm), Ext.refl C.rel, con_str_mk rfl⟩
    · cases e3
      obtain ⟨p, hp, hX⟩ := con_ptr h1
      exact ⟨_, w, fin _ hX, Ext.refl C.rel, con_str_mk rfl⟩
  | false =>
    rw [h0, sw_false] at e2
    have hn0 : n ≠ 0 := by intro e; subst e; simp at h0
    obtain ⟨b, q, rfl, e3⟩ := onPtr_inv e2 (by simp)
    obtain ⟨hmost, e4⟩ := sw_inv e3 (by simp)
    have hmost : n ≤ 1073741824 := Nat.le_of_ble_eq_true hmost
    obtain ⟨l, el, ro, wh, hbk, e5⟩ := onCells_inv e4 (by simp)
    obtain ⟨he, e6⟩ := sw_inv e5 (by simp)
    have he := Nat.eq_of_beq_eq_true he
    subst he
    have hrw : andB ro wh = false := by
      cases hrw : andB ro wh with
      | true => rw [hrw] at e6; cases e6
      | false => rfl
    rw [hrw, sw_false] at e6
    obtain ⟨vs, hvs, e7⟩ := onOpt_inv e6 (by simp)
    obtain ⟨s, hs, e8⟩ := onOpt_inv e7 (by simp)
    cases e8
    obtain ⟨p, hp, hX⟩ := con_ptr h1
    obtain ⟨hlive, c, fz, hh, H⟩ := live_cells C.rel hp hbk
    obtain ⟨hvs2, hall⟩ := bytesL_inv hs
    rw [dropX_eq] at hvs
    obtain ⟨hle, hvs3⟩ := takeX_some hvs
    have hlen : s.length = n := by
      have := congrArg List.length hvs3
      rw [hvs2, List.length_map, List.length_take] at this
      omega
    have hfit := H.fits
    have hcs := H.size
    have hld := List.length_drop (l := l) (i := q)
    have hcell1 : P.cellsOf el = 1 := by
      unfold sizeT at hsz
      unfold Program.cellsOf
      cases hi : P.info? el with
      | none => rw [hi] at hsz; cases hsz
      | some i => rw [hi] at hsz; simpa using hsz
    have hlies := liesAt_bytes (P := P) hcell1 (c.size / P.cellsOf el) (p.base + q) n (by rw [hcell1, Nat.div_one]; omega)
    have hlb := Lib.run_loadBytes (P := P) w (s.map UInt8.ofNat) ⟨p.blk, p.base + q, none⟩ .empty (fun j y hy => by
      rw [List.getElem?_map] at hy
      cases hj : s[j]? with
      | none => rw [hj] at hy; cases hy
      | some cc =>
        rw [hj] at hy
        cases hy
        have hjl : j < s.length := (List.getElem?_eq_some_iff.1 hj).1
        have h3 : vs[j]? = some (.int 4 (Int.ofNat cc)) := by rw [hvs2]; simp [hj]
        rw [hvs3, List.getElem?_take, if_pos (by omega), List.getElem?_drop] at h3
        obtain ⟨x', hx', _, hc⟩ := cell_of hh H h3
        obtain ⟨_, rfl⟩ := con_int hx'
        rw [addr_add, Nat.add_assoc, hc]
        have : cc < 256 := by simpa using List.all_eq_true.1 hall cc (List.mem_of_getElem? hj)
        simp [kindOf, Nat.mod_eq_of_lt this])
    rw [List.length_map, hlen] at hlb
    have hblt : p.blk < w.heap.size := (Array.getElem?_eq_some_iff.1 hh).1
    refine ⟨.string ⟨(s.map UInt8.ofNat).toArray⟩, w.freeze ⟨p.blk, p.base + q, none⟩ n, ?_, ?_, con_str_mk hall⟩
    · rw [hX, hY]
      have hsh := shape_of hh
      have e1 : ¬ ((n : Int) < 0) := by omega
      have e2 : ¬ ((n : Int) > IntKind.i64.max) := by rw [hmax]; omega
      have e3 : ¬ ((n : Int) = 0) := by omega
      change (bind (asInt (.int (kindOf kk) ((n : Nat) : Int))) _ : Sem Value).run P w = _
      simp [asInt, asIntOf, ht, e1, e2, e3, variablesAt, hsh, elemOf, run_underlying' hu, hlies, hlb, hn0]
      omega
    · have hfr : (w.freeze ⟨p.blk, p.base + q, none⟩ n).heap[p.blk]? = some (.cells c el (if fz.1 == fz.2 then (p.base + q, p.base + q + n) else (min fz.1 (p.base + q), max fz.2 (p.base + q + n)))) := by
        unfold World.freeze
        rw [if_neg hn0]
        show (w.heap.modify p.blk _)[p.blk]? = _
        rw [Array.getElem?_modify, if_pos rfl, hh]
        rfl
      refine Ext.turn C.rel hlive hp _ _ ?_ ?_ ?_ ?_ ?_ ?_
      · unfold World.freeze; rw [if_neg hn0]; simp
      · intro j hj
        unfold World.freeze; rw [if_neg hn0]
        show (w.heap.modify p.blk _)[j]? = _
        rw [Array.getElem?_modify, if_neg (Ne.symm hj)]
      · rw [hfr]
        exact ⟨c, _, rfl, H.size, H.fits, H.cell, (fun hro => by cases hro), (fun h => by cases h), fun _ h => by cases h⟩
      · unfold World.freeze; rw [if_neg hn0]
      · unfold World.freeze; rw [if_neg hn0]
      · unfold World.freeze; rw [if_neg hn0]
end
end Go.Proofs.YteahdpjeoeeemaaGreatDoor.Ax

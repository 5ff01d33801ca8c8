/- A part of an executor of the model over an abstract memory, with the proof that what it says is what the model does: Aggregates that are built; functions without a body. Operations that read memory, and functions without a body. Maps, and the last of the operations that read. Texts out of bytes; pointers seen as others; operations that make one block. Slices that are made; stores; appends; copies. -/
import Derived.Test.YteahdpjeoeeemaaGreatDoorAx2
import Derived.Lib.Bytealg
import Derived.Laws.Cells
import Derived.MapKept
import Derived.Laws.BytesArg
namespace Go.Proofs.YteahdpjeoeeemaaGreatDoor.Ax
set_option linter.unusedVariables false
set_option linter.unusedSimpArgs false
set_option linter.unnecessarySimpa false

section
variable {P : Program} {σ : Nat → ByteArray} {nt : Nat} {o : Oper}

theorem foldl_over_list (off : Nat) : ∀ (vs : List Value) (k : Nat) (cs : Array Value), (vs.zipIdx k).foldl (fun cs (c, j) => cs.setIfInBounds (off + j) c) cs = over cs (off + k) vs
  | [], k, cs => rfl
  | v :: vs, k, cs => by
    rw [List.zipIdx_cons, List.foldl_cons, foldl_over_list off vs (k + 1), over]
    rfl
theorem foldl_over (off : Nat) (vs : Array Value) (cs : Array Value) : vs.zipIdx.foldl (fun cs (c, j) => cs.setIfInBounds (off + j) c) cs = over cs off vs.toList := by
  rw [← Array.foldl_toList, Array.toList_zipIdx]
  exact foldl_over_list off vs.toList 0 cs
/-- rows laid over rows -/
theorem conL_over {ρ : Rho} {cs z l : List AV} {xs zs : List Value} {off : Nat} (hp : putX cs off z = some l) (hc : conL ρ σ cs = some xs) (hz : conL ρ σ z = some zs) :
    conL ρ σ l = some (over zs.toArray off xs).toList ∧ l.length = z.length := by
  obtain ⟨hle, rfl⟩ := putX_some hp
  have h1 := conL_length hc
  have h2 := conL_length hz
  have hlen : (z.take off ++ cs ++ z.drop (off + cs.length)).length = z.length := by
    simp only [List.length_append, List.length_take, List.length_drop]; omega
  refine ⟨conL_ext ?_ ?_, hlen⟩
  · rw [hlen, Array.length_toList, over_size]; simpa using h2
  · intro i v hv
    rw [Array.getElem?_toList, over_get _ _ _ _ (by simp only [List.size_toArray]; omega)]
    by_cases hi : off ≤ i ∧ i < off + xs.length
    · rw [if_pos hi]
      rw [List.append_assoc, List.getElem?_append_right (by simp; omega), List.getElem?_append_left (by simp only [List.length_take]; omega)] at hv
      have e : i - (z.take off).length = i - off := by simp only [List.length_take]; omega
      rw [e] at hv
      exact conL_get hc hv
    · rw [if_neg hi]
      have hv' : z[i]? = some v := by
        rcases Nat.lt_or_ge i off with hlt | hge
        · rw [List.append_assoc, List.getElem?_append_left (by simp only [List.length_take]; omega), List.getElem?_take, if_pos hlt] at hv
          exact hv
        · have hge2 : off + xs.length ≤ i := by omega
          rw [List.getElem?_append_right (by simp only [List.length_append, List.length_take]; omega), List.getElem?_drop] at hv
          have e : off + cs.length + (i - (z.take off ++ cs).length) = i := by simp only [List.length_append, List.length_take]; omega
          rw [e] at hv
          exact hv
      obtain ⟨x, hx, hcx⟩ := conL_get hz hv'
      exact ⟨x, by simpa using hx, hcx⟩
theorem all_put {cs z l : List AV} {off : Nat} (hp : putX cs off z = some l) (hc : cs.all isCell = true) (hz : z.all isCell = true) : l.all isCell = true := by
  obtain ⟨_, rfl⟩ := putX_some hp
  rw [List.all_append, List.all_append, hc]
  rw [List.all_eq_true] at hz
  simp only [Bool.and_true, Bool.and_eq_true, List.all_eq_true]
  exact ⟨fun x hx => hz x (List.mem_of_mem_take hx), fun x hx => hz x (List.mem_of_mem_drop hx)⟩
/-- a value's cells -/
theorem cells_ok {ρ : Rho} {x : AV} {X : Value} {cs : List AV} (hx : con ρ σ x = some X) (h : (x = .agg cs) ∨ (isCell x = true ∧ cs = [x])) : conL ρ σ cs = some X.cells.toList ∧ cs.all isCell = true := by
  rcases h with rfl | ⟨h1, rfl⟩
  · obtain ⟨xs, h2, h3, rfl⟩ := con_agg hx
    exact ⟨by simpa [Value.cells] using h2, h3⟩
  · refine ⟨?_, by simp [h1]⟩
    have hna : X.cells = #[X] := by
      cases X <;> try rfl
      obtain ⟨l, rfl⟩ := con_aggv hx
      cases h1
    rw [hna]
    exact conL_cons.2 ⟨X, [], hx, rfl, rfl⟩
theorem cells_inv {α : Type} {x : AV} {f : List AV → α} {d y : α} (h : cellsX x f d = y) (hd : d ≠ y) : ∃ cs, ((x = .agg cs) ∨ (isCell x = true ∧ cs = [x])) ∧ f cs = y := by
  rcases cellsX_inv h hd with ⟨l, rfl, h1⟩ | ⟨h1, h2⟩
  · exact ⟨l, .inl rfl, h1⟩
  · exact ⟨[x], .inr ⟨h1, rfl⟩, h2⟩

theorem fill_ok {ρ : Rho} (place : Nat → Option (Nat × Nat)) : ∀ (ps : List (Nat × Nat)) (ix : List Nat) (vs z l : List AV) (xs zs : List Value), (cFill ps).run vs z = some l → conL ρ σ vs = some xs → conL ρ σ z = some zs → z.all isCell = true →
    ix.map place = ps.map some → ∃ ls, Instr.fill place zs.toArray (ix.zip xs) = some ls.toArray ∧ conL ρ σ l = some ls ∧ l.all isCell = true
  | [], ix, vs, z, l, xs, zs, h, hv, hz, hc, hp => by
    have : ix = [] := by simpa using hp
    subst this
    cases h
    exact ⟨zs, rfl, hz, hc⟩
  | (off, size) :: ps, [], vs, z, l, xs, zs, h, hv, hz, hc, hp => by simp at hp
  | (off, size) :: ps, i :: ix, vs, z, l, xs, zs, h, hv, hz, hc, hp => by
    simp only [List.map_cons, List.cons.injEq] at hp
    change onList vs _ none = some l at h
    obtain ⟨v, rest, rfl, q1⟩ := onList_inv h (by simp)
    obtain ⟨cs, hcs, q2⟩ := cells_inv q1 (by simp)
    obtain ⟨hlen, q3⟩ := sw_inv q2 (by simp)
    have hlen := Nat.eq_of_beq_eq_true hlen
    rw [lenX_eq] at hlen
    obtain ⟨z', hz', q4⟩ := onOpt_inv q3 (by simp)
    obtain ⟨x, t, hx, ht, rfl⟩ := conL_cons.1 hv
    obtain ⟨hcc, hca⟩ := cells_ok hx hcs
    have hl2 := conL_length hcc
    rw [Array.length_toList] at hl2
    obtain ⟨hz1, hz2⟩ := conL_over hz' hcc hz
    obtain ⟨hle, _⟩ := putX_some hz'
    have hlz := conL_length hz
    obtain ⟨ls, h1, h2, h3⟩ := fill_ok place ps ix rest z' l t _ q4 ht hz1 (all_put hz' hca hc) hp.2
    refine ⟨ls, ?_, h2, h3⟩
    rw [List.zip_cons_cons, Instr.fill, hp.1]
    simp only
    rw [if_neg (by simp only [Bool.or_eq_true, bne_iff_ne, ne_eq, decide_eq_true_eq, List.size_toArray]; omega), foldl_over]
    exact h1
theorem hasAll_ok : ∀ {l : List (Option (Nat × Nat))} {r : List (Nat × Nat)}, hasAll l = some r → l = r.map some
  | [], r, h => by cases h; rfl
  | none :: l, r, h => by cases h
  | some p :: l, r, h => by
    simp only [hasAll] at h
    cases hl : hasAll l with
    | none => rw [hl] at h; cases h
    | some t => rw [hl] at h; cases h; rw [hasAll_ok hl]; rfl
theorem zero_run {t : TypeId} {z : List AV} {w : World} (h : zeroL P t = some z) : ∃ Z, (zeroValue t).run P w = .ok Z w ∧ ∀ ρ, conL ρ σ z = some Z.cells.toList ∧ z.all isCell = true := by
  unfold zeroL at h
  cases hi : P.info? t with
  | none => rw [hi] at h; cases h
  | some i =>
    rw [hi] at h
    simp only at h
    cases hz : i.zero with
    | none => rw [hz] at h; cases h
    | some Z =>
      rw [hz] at h
      simp only at h
      split at h
      · rename_i hall
        cases h
        exact ⟨Z, by simp [zeroValue, typeInfo, hi, hz], fun ρ => conL_absS hall⟩
      · cases h
theorem sizeT_run {t : TypeId} {w : World} {i : TypeInfo} (h : P.info? t = some i) : (Go.sizeOf t).run P w = .ok (sizeT P t) w := by
  simp [Go.sizeOf, typeInfo, h, sizeT]
theorem mapM_places {w : World} : ∀ (fs : List Field), fs.all (fun f => (P.info? f.type).isSome) = true → (fs.mapM (m := Sem) fun f => do pure (f.offset, ← Go.sizeOf f.type)).run P w = .ok (fs.map fun f => (f.offset, sizeT P f.type)) w
  | [], _ => by simp
  | f :: fs, h => by
    simp only [List.all_cons, Bool.and_eq_true] at h
    obtain ⟨i, hi⟩ := Option.isSome_iff_exists.1 h.1
    simp only [List.mapM_cons, Sem.run_bind, sizeT_run hi, Result.andThen_ok, mapM_places fs h.2, Sem.run_pure, List.map_cons]
theorem build_ok {t : TypeId} {parts : Array (Nat × Operand)} {z : List AV} {ps : List (Nat × Nat)} (ho : o.op = .build t parts) (hx : (parts.toList.map (·.2)).all (okOpd P nt) = true)
    (hz : zeroL P t = some z) (hp : buildPlaces P t (parts.toList.map (·.1)) = some ps) :
    PureOk P σ nt o (fun r => onOpt ((cFill ps).run ((cOpds (parts.toList.map (·.2))).run r) z) (fun l => .ok (.agg l)) .no) := by
  intro ρ h w r a v C ev
  obtain ⟨l, hl, ev⟩ := onOpt_inv ev (by simp)
  cases ev
  obtain ⟨Z, hZ, hZc⟩ := zero_run (w := w) (σ := σ) hz
  obtain ⟨hzc, hza⟩ := hZc ρ
  have hops := C.opds hx
  have hparts : (parts.map fun (p : Nat × Operand) => (p.1, a.eval p.2)).toList = (parts.toList.map (·.1)).zip ((parts.toList.map (·.2)).map a.eval) := by
    rw [Array.toList_map, List.map_map]
    generalize parts.toList = pl
    induction pl with
    | nil => rfl
    | cons p pl ih => simp [ih]
  unfold buildPlaces at hp
  cases hu : P.underlying t with
  | none => rw [hu] at hp; cases hp
  | some d =>
    rw [hu] at hp
    cases d <;> simp only [reduceCtorEq] at hp
    · rename_i n e
      split at hp
      · rename_i hi
        obtain ⟨ie, hie⟩ := Option.isSome_iff_exists.1 hi
        have hp2 := hasAll_ok hp
        obtain ⟨ls, h1, h2, h3⟩ := fill_ok (fun i => some (i * sizeT P e, sizeT P e)) ps _ _ _ _ _ _ hl hops hzc hza hp2
        refine ⟨.agg ls.toArray, ?_, con_agg_mk h2 h3⟩
        simp only [execOp, ho]
        refine run_v ?_
        unfold Instr.build
        simp only [Sem.run_bind, hZ, Result.andThen_ok, run_underlying' hu, sizeT_run hie]
        rw [hparts]
        have h1' : Instr.fill (fun i => some (i * sizeT P e, sizeT P e)) Z.cells ((parts.toList.map (·.1)).zip ((parts.toList.map (·.2)).map a.eval)) = some ls.toArray := h1
        rw [h1']
        rfl
      · cases hp
    · rename_i fs
      split at hp
      · rename_i hall
        have hp2 := hasAll_ok hp
        obtain ⟨ls, h1, h2, h3⟩ := fill_ok (fun i => (fs[i]?).map fun (f : Field) => (f.offset, sizeT P f.type)) ps _ _ _ _ _ _ hl hops hzc hza hp2
        refine ⟨.agg ls.toArray, ?_, con_agg_mk h2 h3⟩
        simp only [execOp, ho]
        refine run_v ?_
        unfold Instr.build
        have hm : (fs.mapM (m := Sem) fun (f : Field) => do pure (f.offset, ← Go.sizeOf f.type)).run P w = .ok (fs.map fun (f : Field) => (f.offset, sizeT P f.type)) w := by
          rw [Array.mapM_eq_mapM_toList]
          simp only [Sem.run_map, mapM_places _ hall, Result.andThen_ok]
          congr 1
          apply Array.ext'
          simp
        simp only [Sem.run_bind, hZ, Result.andThen_ok, run_underlying' hu, hm]
        rw [hparts]
        have hpl : (fun i : Nat => (fs.map fun (f : Field) => (f.offset, sizeT P f.type))[i]?) = fun i : Nat => (fs[i]?).map fun (f : Field) => (f.offset, sizeT P f.type) := by
          funext i; simp
        have h1' : Instr.fill (fun i => (fs.map fun (f : Field) => (f.offset, sizeT P f.type))[i]?) Z.cells ((parts.toList.map (·.1)).zip ((parts.toList.map (·.2)).map a.eval)) = some ls.toArray := by
          rw [hpl]; exact h1
        rw [h1']
        rfl
      · cases hp

/-! functions without a body -/
theorem extern_run {f : FuncId} {fn : Func} {args : Array Operand} {ts : Array TypeId} {a : Act} {w : World} {Z : Value} {e : Array Value → Sem Value}
    (ho : o.op = .call { callee := .value (.func f), args := args, argTypes := ts }) (hf : P.funcs[f]? = some fn) (hb : fn.body = none) (hn : (fn.name == "runtime.NumGoroutine") = false)
    (hx : Extern.findNext fn = none) (he : Extern.find fn = some e) (hr : (e (args.map a.eval)).run P w = .ok Z w) : (execOp a.eval o).run P w = .ok (.value Z) w := by
  simp only [execOp, ho, resolve]
  simp only [Sem.run_bind]
  have h1 : (Deferred.ofValue (a.eval (.func f)) (args.map a.eval)).run P w = .ok { target := .fn (.func f) #[], args := args.map a.eval } w := by
    simp [Deferred.ofValue, Act.eval]
  rw [h1]
  simp only [Result.andThen_ok, invoke, callFunc, Sem.run_bind, run_program, Array.append_empty]
  rw [hf]
  simp only [hn, Bool.false_eq_true, if_false, hb, Option.isNone_none, if_true, Sem.run_bind, run_mark, Result.andThen_ok, hx, he, hr, Sem.run_pure]
theorem findNext_of {fn : Func} {s : String} (hn : fn.name = s) (ho : fn.origin = "") (h1 : Extern.allNextRows.lookup s = none) (h2 : Extern.allNextRows.lookup "" = none) : Extern.findNext fn = none := by
  unfold Extern.findNext
  simp only [hn, ho, h1, h2]
  rfl
theorem find_of {fn : Func} {s : String} {e : Array Value → Sem Value} (hn : fn.name = s) (h1 : Extern.allGenericRows.lookup s = none) (h2 : Extern.allTypedRows.lookup s = none) (h3 : Extern.allRows.lookup s = some e) : Extern.find fn = some e := by
  unfold Extern.find
  simp only [hn, h1, h2, h3]
  rfl
theorem next_empty : Extern.allNextRows.lookup "" = none := by kernel_rfl
theorem ib1 : Extern.allNextRows.lookup "internal/bytealg.IndexByteString" = none := by kernel_rfl
theorem ib2 : Extern.allGenericRows.lookup "internal/bytealg.IndexByteString" = none := by kernel_rfl
theorem ib3 : Extern.allTypedRows.lookup "internal/bytealg.IndexByteString" = none := by kernel_rfl
theorem ib4 : Extern.allRows.lookup "internal/bytealg.IndexByteString" = some Extern.BytealgIndexByte.indexByte := by kernel_rfl
theorem ct1 : Extern.allNextRows.lookup "internal/bytealg.CountString" = none := by kernel_rfl
theorem ct2 : Extern.allGenericRows.lookup "internal/bytealg.CountString" = none := by kernel_rfl
theorem ct3 : Extern.allTypedRows.lookup "internal/bytealg.CountString" = none := by kernel_rfl
theorem ct4 : Extern.allRows.lookup "internal/bytealg.CountString" = some Extern.BytealgCount.count := by kernel_rfl
theorem ne1 : Extern.allNextRows.lookup "internal/abi.NoEscape" = none := by kernel_rfl
theorem ne2 : Extern.allGenericRows.lookup "internal/abi.NoEscape" = none := by kernel_rfl
theorem ne3 : Extern.allTypedRows.lookup "internal/abi.NoEscape" = none := by kernel_rfl
theorem ne4 : Extern.allRows.lookup "internal/abi.NoEscape" = some Extern.AbiNoEscape.same := by kernel_rfl
end
end Go.Proofs.YteahdpjeoeeemaaGreatDoor.Ax

namespace Go.Proofs.YteahdpjeoeeemaaGreatDoor.Ax
set_option linter.unusedVariables false
set_option linter.unusedSimpArgs false
set_option linter.unnecessarySimpa false

section
variable {P : Program} {σ : Nat → ByteArray} {nt : Nat} {o : Oper}

/-! functions without a body -/
theorem ofNat_beq {x m : Nat} (hx : x < 256) (hm : m < 256) : (UInt8.ofNat x == UInt8.ofNat m) = decide (x = m) := by
  rw [Bool.eq_iff_iff]
  simp only [beq_iff_eq, decide_eq_true_eq]
  exact ⟨ofNat_inj hx hm, fun h => by rw [h]⟩
theorem index_eq (m : Nat) (hm : m < 256) : ∀ (s : List Nat) (i : Nat), s.all (· < 256) = true →
    listR (fun _ => Int.negSucc 0) (fun x _ ih i => sw (Nat.beq x m) (Int.ofNat i) (ih (Nat.succ i))) s i =
      (if Lib.indexByte (s.map UInt8.ofNat) (UInt8.ofNat m) = -1 then -1 else Lib.indexByte (s.map UInt8.ofNat) (UInt8.ofNat m) + i)
  | [], i, _ => rfl
  | x :: s, i, h => by
    simp only [List.all_cons, Bool.and_eq_true, decide_eq_true_eq] at h
    rw [listR_cons, index_eq m hm s (Nat.succ i) h.2, beq_dec, sw_if, List.map_cons, Lib.indexByte, ofNat_beq h.1 hm]
    have hge := Lib.indexByte_ge (s.map UInt8.ofNat) (UInt8.ofNat m)
    by_cases hx : x = m
    · simp [hx]
    · simp only [hx, decide_false, Bool.false_eq_true, if_false]
      by_cases h1 : Lib.indexByte (s.map UInt8.ofNat) (UInt8.ofNat m) = -1
      · simp [h1]
      · have h2 : (Lib.indexByte (s.map UInt8.ofNat) (UInt8.ofNat m) == -1) = false := by simpa using h1
        rw [if_neg h1, h2]
        simp only [Bool.false_eq_true, if_false]
        rw [if_neg (by omega)]
        simp only [Nat.succ_eq_add_one, Int.natCast_add]; omega
theorem count_eq (m : Nat) (hm : m < 256) : ∀ (s : List Nat), s.all (· < 256) = true → listR 0 (fun x _ ih => sw (Nat.beq x m) (Nat.succ ih) ih) s = Lib.countByte (s.map UInt8.ofNat) (UInt8.ofNat m)
  | [], _ => rfl
  | x :: s, h => by
    simp only [List.all_cons, Bool.and_eq_true, decide_eq_true_eq] at h
    rw [listR_cons, count_eq m hm s h.2, beq_dec, sw_if]
    unfold Lib.countByte
    rw [List.map_cons, List.count_cons, ofNat_beq h.1 hm]
    by_cases hx : x = m <;> simp [hx]
theorem kind4 {k : Nat} (h : Nat.beq k 4 = true) : kindOf k = .u8 := by
  have := Nat.eq_of_beq_eq_true h
  subst this; rfl
theorem call_args {f : FuncId} {args : List Operand} {ts : Array TypeId} {ar : Array Operand} (h : ar.toList = args) : ar = args.toArray := by rw [← h]
theorem indexByte_ok {f : FuncId} {fn : Func} {x c : Operand} {ts : Array TypeId} (ho : o.op = .call { callee := .value (.func f), args := #[x, c], argTypes := ts }) (hx : okOpd P nt x = true) (hc : okOpd P nt c = true)
    (hf : P.funcs[f]? = some fn) (hb : fn.body = none) (hor : fn.origin = "") (hn : fn.name = "internal/bytealg.IndexByteString") : PureOk P σ nt o (fun r => indexByteV ((cOpd x).run r) ((cOpd c).run r)) := by
  intro ρ h w r a v C ev
  have h1 := C.opd hx
  have h2 := C.opd hc
  obtain ⟨s, hs, e1⟩ := onStr_inv ev (by simp)
  obtain ⟨k, n, hk, e2⟩ := onInt_inv e1 (by simp)
  obtain ⟨hk4, e3⟩ := sw_inv e2 (by simp)
  obtain ⟨m, rfl, e4⟩ := onNat_inv e3 (by simp)
  obtain ⟨hm, e5⟩ := sw_inv e4 (by simp)
  cases e5
  rw [blt_dec, decide_eq_true_eq] at hm
  rw [hs] at h1; rw [hk] at h2
  obtain ⟨hall, hX⟩ := con_str h1
  obtain ⟨_, hY⟩ := con_int h2
  rw [kind4 hk4] at hY
  refine ⟨.int .i64 (Lib.indexByte (s.map UInt8.ofNat) (UInt8.ofNat m)), extern_run ho hf hb (by rw [hn]; decide) (findNext_of hn hor ib1 next_empty) (find_of hn ib2 ib3 ib4) ?_, ?_⟩
  · rw [show #[x, c].map a.eval = #[a.eval x, a.eval c] by simp]
    rw [hX, hY, Lib.run_indexByteString, str_data]
    rfl
  · rw [con_int_mk (by decide), index_eq m hm s 0 hall]
    congr 2
    split
    · rename_i h; rw [h]
    · simp
theorem count_ok {f : FuncId} {fn : Func} {x c : Operand} {ts : Array TypeId} (ho : o.op = .call { callee := .value (.func f), args := #[x, c], argTypes := ts }) (hx : okOpd P nt x = true) (hc : okOpd P nt c = true)
    (hf : P.funcs[f]? = some fn) (hb : fn.body = none) (hor : fn.origin = "") (hn : fn.name = "internal/bytealg.CountString") : PureOk P σ nt o (fun r => countV ((cOpd x).run r) ((cOpd c).run r)) := by
  intro ρ h w r a v C ev
  have h1 := C.opd hx
  have h2 := C.opd hc
  obtain ⟨s, hs, e1⟩ := onStr_inv ev (by simp)
  obtain ⟨k, n, hk, e2⟩ := onInt_inv e1 (by simp)
  obtain ⟨hk4, e3⟩ := sw_inv e2 (by simp)
  obtain ⟨m, rfl, e4⟩ := onNat_inv e3 (by simp)
  obtain ⟨hm, e5⟩ := sw_inv e4 (by simp)
  cases e5
  rw [blt_dec, decide_eq_true_eq] at hm
  rw [hs] at h1; rw [hk] at h2
  obtain ⟨hall, hX⟩ := con_str h1
  obtain ⟨_, hY⟩ := con_int h2
  rw [kind4 hk4] at hY
  refine ⟨.int .i64 (Lib.countByte (s.map UInt8.ofNat) (UInt8.ofNat m) : Nat), extern_run ho hf hb (by rw [hn]; decide) (findNext_of hn hor ct1 next_empty) (find_of hn ct2 ct3 ct4) ?_, ?_⟩
  · rw [show #[x, c].map a.eval = #[a.eval x, a.eval c] by simp]
    rw [hX, hY, Lib.run_countString, str_data]
    rfl
  · rw [con_int_mk (by decide), count_eq m hm s hall]; rfl
theorem noEscape_ok {f : FuncId} {fn : Func} {x : Operand} {ts : Array TypeId} (ho : o.op = .call { callee := .value (.func f), args := #[x], argTypes := ts }) (hx : okOpd P nt x = true)
    (hf : P.funcs[f]? = some fn) (hb : fn.body = none) (hor : fn.origin = "") (hn : fn.name = "internal/abi.NoEscape") : PureOk P σ nt o (fun r => .ok ((cOpd x).run r)) := by
  intro ρ h w r a v C ev
  cases ev
  exact ⟨a.eval x, extern_run ho hf hb (by rw [hn]; decide) (findNext_of hn hor ne1 next_empty) (find_of hn ne2 ne3 ne4) (by rw [show #[x].map a.eval = #[a.eval x] by simp]; rfl), C.opd hx⟩

/-! reading -/
theorem live_cells {ρ : Rho} {h : AH} {w : World} {b : Nat} {p : Place} {l : List AV} {e : Nat} {ro wh : Bool} (R : Rel P.globals.size ρ σ h w) (hp : ρ b = some p) (hb : hget h b = .cells l e ro wh) :
    Live h b ∧ ∃ c fz, w.heap[p.blk]? = some (.cells c e fz) ∧ CellsOk ρ σ p c fz l ro wh := by
  have hl : Live h b := ⟨Nat.lt_of_lt_of_le (R.dom b p hp) R.nx, by rw [hb]; simp⟩
  obtain ⟨q, hq, _, hB⟩ := R.live b hl
  rw [hp] at hq; cases hq
  rw [hb] at hB
  exact ⟨hl, hB⟩
theorem cell_of {ρ : Rho} {p : Place} {c : Array Value} {fz : Nat × Nat} {l : List AV} {ro wh : Bool} {w : World} {e : Nat} (hh : w.heap[p.blk]? = some (.cells c e fz)) (H : CellsOk ρ σ p c fz l ro wh) {j : Nat} {v : AV} (hj : l[j]? = some v) :
    ∃ x, con ρ σ v = some x ∧ isCell v = true ∧ w.cell? ⟨p.blk, p.base + j, none⟩ = some x := by
  obtain ⟨h1, x, h2, h3⟩ := H.cell j v hj
  refine ⟨x, h2, h1, ?_⟩
  unfold World.cell?
  rw [hh]
  simpa using h3
theorem ldN_run {ρ : Rho} {p : Place} {c : Array Value} {fz : Nat × Nat} {l vs : List AV} {ro wh : Bool} {w : World} {e n q : Nat} (hh : w.heap[p.blk]? = some (.cells c e fz)) (H : CellsOk ρ σ p c fz l ro wh) (hv : takeX n (dropX q l) = some vs) :
    ∃ xs, conL ρ σ vs = some xs ∧ vs.all isCell = true ∧ vs.length = n ∧ (loadCells ⟨p.blk, p.base + q, none⟩ n).run P w = .ok xs.toArray w := by
  rw [dropX_eq] at hv
  obtain ⟨hle, rfl⟩ := takeX_some hv
  have hget : ∀ (i : Nat) (v : AV), ((l.drop q).take n)[i]? = some v → l[q + i]? = some v := by
    intro i v hi
    rw [List.getElem?_take] at hi
    split at hi
    · rw [List.getElem?_drop] at hi; exact hi
    · cases hi
  have hall : ∀ v ∈ (l.drop q).take n, ∃ x, con ρ σ v = some x := by
    intro v hv
    obtain ⟨i, hi⟩ := List.getElem?_of_mem hv
    obtain ⟨x, hx, _⟩ := cell_of hh H (hget i v hi)
    exact ⟨x, hx⟩
  obtain ⟨xs, hxs⟩ := conL_of_all hall
  have hlen := conL_length hxs
  have hn : ((l.drop q).take n).length = n := by rw [List.length_take]; omega
  refine ⟨xs, hxs, ?_, hn, ?_⟩
  · rw [List.all_eq_true]
    intro v hv
    obtain ⟨i, hi⟩ := List.getElem?_of_mem hv
    obtain ⟨x, _, hc, _⟩ := cell_of hh H (hget i v hi)
    exact hc
  · have := run_loadCells_list (P := P) w ⟨p.blk, p.base + q, none⟩ xs (fun j x hj => by
      have hjn : j < ((l.drop q).take n).length := by
        rw [← hlen]
        rcases Nat.lt_or_ge j xs.length with h | h
        · exact h
        · rw [List.getElem?_eq_none h] at hj; cases hj
      obtain ⟨y, hy, hyc⟩ := conL_get hxs (List.getElem?_eq_getElem hjn)
      obtain ⟨z, hz, _, hzc⟩ := cell_of hh H (hget j _ (List.getElem?_eq_getElem hjn))
      rw [hyc] at hz; cases hz
      rw [hj] at hy; cases hy
      rw [addr_add, Nat.add_assoc]
      exact hzc)
    rwa [hlen, hn] at this
theorem ld1_run {ρ : Rho} {h : AH} {w : World} {b q : Nat} {p : Place} {v : AV} (R : Rel P.globals.size ρ σ h w) (hp : ρ b = some p) (e : ld1 h b q = .ok v) :
    ∃ x, con ρ σ v = some x ∧ isCell v = true ∧ w.cell? ⟨p.blk, p.base + q, none⟩ = some x := by
  obtain ⟨l, el, ro, wh, hb, e1⟩ := onCells_inv e (by simp)
  obtain ⟨u, t, hd, e2⟩ := onList_inv e1 (by simp)
  cases e2
  obtain ⟨_, c, fz, hh, H⟩ := live_cells R hp hb
  rw [dropX_eq] at hd
  have hi : l[q]? = some v := by
    have := congrArg (fun m => m[0]?) hd
    simpa using this
  exact cell_of hh H hi
theorem load_run {t : TypeId} {ρ : Rho} {h : AH} {w : World} {b q : Nat} {p : Place} {v : AV} (R : Rel P.globals.size ρ σ h w) (hp : ρ b = some p) (e : (ldF P t).run h b q = .ok v) :
    ∃ x, con ρ σ v = some x ∧ (loadVar t ⟨p.blk, p.base + q, none⟩).run P w = .ok x w := by
  unfold ldF aggOf at e
  cases hu : P.underlying t with
  | none => rw [hu] at e; cases e
  | some d =>
    cases hi : P.info? t with
    | none => rw [hu, hi] at e; cases d <;> cases e
    | some i =>
      rw [hu, hi] at e
      by_cases hag : (∃ fs, d = .struct fs) ∨ (∃ n el, d = .array n el)
      · have e' : ldN i.size h b q = .ok v := by
          rcases hag with ⟨fs, rfl⟩ | ⟨n, el, rfl⟩ <;> exact e
        obtain ⟨l, el, ro, wh, hb, e1⟩ := onCells_inv e' (by simp)
        obtain ⟨vs, hvs, e2⟩ := onOpt_inv e1 (by simp)
        cases e2
        obtain ⟨_, c, fz, hh, H⟩ := live_cells R hp hb
        obtain ⟨xs, hxs, hc, _, hrun⟩ := ldN_run (P := P) hh H hvs
        refine ⟨.agg xs.toArray, con_agg_mk hxs hc, ?_⟩
        have hagg : (isAgg t).run P w = .ok true w := by
          rcases hag with ⟨fs, rfl⟩ | ⟨n, el, rfl⟩ <;> simp [isAgg, run_underlying' hu]
        simp only [loadVar, Sem.run_bind, hagg, Result.andThen_ok, if_true, sizeT_run hi]
        have : sizeT P t = i.size := by simp [sizeT, hi]
        rw [this, hrun]
        simp
      · have e' : ld1 h b q = .ok v := by
          cases d <;> first | exact e | (exact absurd (.inl ⟨_, rfl⟩) hag) | (exact absurd (.inr ⟨_, _, rfl⟩) hag)
        obtain ⟨x, hx, _, hc⟩ := ld1_run R hp e'
        refine ⟨x, hx, ?_⟩
        have hagg : (isAgg t).run P w = .ok false w := by
          cases d <;> first | (simp [isAgg, run_underlying' hu]; done) | (exact absurd (.inl ⟨_, rfl⟩) hag) | (exact absurd (.inr ⟨_, _, rfl⟩) hag)
        simp only [loadVar, Sem.run_bind, hagg, Result.andThen_ok, Bool.false_eq_true, if_false, run_load, hc]
theorem load_ok {t : TypeId} {x : Operand} (ho : o.op = .load t x) (hx : okOpd P nt x = true) : ReadOk P σ nt o (fun r h => onPtr ((cOpd x).run r) (fun b q => (ldF P t).run h b q) .no) := by
  intro ρ h w r a v C e
  obtain ⟨b, q, hb, e1⟩ := onPtr_inv e (by simp)
  have h1 := C.opd hx
  rw [hb] at h1
  obtain ⟨p, hp, hX⟩ := con_ptr h1
  obtain ⟨x', hx', hrun⟩ := load_run C.rel hp e1
  refine ⟨x', ?_, hx'⟩
  simp only [execOp, ho]
  refine run_v ?_
  rw [hX]
  simp only [Instr.loadAt, Instr.sureAddr, Sem.run_bind, Sem.run_pure, Result.andThen_ok, hrun]
end
end Go.Proofs.YteahdpjeoeeemaaGreatDoor.Ax

namespace Go.Proofs.YteahdpjeoeeemaaGreatDoor.Ax
set_option linter.unusedVariables false
set_option linter.unusedSimpArgs false
set_option linter.unnecessarySimpa false

section
variable {P : Program} {σ : Nat → ByteArray} {nt : Nat} {o : Oper}

theorem sameSort_comm (a b : AV) : sameSort a b = sameSort b a := by
  cases a <;> cases b <;> simp [sameSort, Bool.beq_comm]
theorem sameSort_trans {a b c : AV} (h1 : sameSort a b = true) (h2 : sameSort b c = true) : sameSort a c = true := by
  cases a <;> cases b <;> cases c <;> simp_all [sameSort]
theorem con_inj {ρ : Rho} {a b : AV} {K : Value} (hs : sameSort a b = true) (ha : con ρ σ a = some K) (hb : con ρ σ b = some K) : a = b := by
  cases a <;> cases b <;> simp only [sameSort, Bool.false_eq_true] at hs
  · rename_i k n k' m
    have hk : k = k' := by simpa using hs
    subst hk
    obtain ⟨_, h1⟩ := con_int ha
    obtain ⟨_, h2⟩ := con_int hb
    rw [h1] at h2
    cases h2; rfl
  · rename_i s t
    obtain ⟨h1, h2⟩ := con_str ha
    obtain ⟨h3, h4⟩ := con_str hb
    rw [h2] at h4
    have := congrArg (fun v => match v with | Value.string b => b.data.toList | _ => []) h4
    simp only [str_data] at this
    rw [map_ofNat_inj h1 h3 this]
theorem eqKey_inv {α : Type} {x k : AV} {F : Bool → α} {d y : α} (h : eqKey x k F d = y) (hd : d ≠ y) : sameSort x k = true ∧ ((x = k ∧ F true = y) ∨ (x ≠ k ∧ F false = y)) := by
  rcases onNum_inv h hd with ⟨kk, a, rfl, q1⟩ | ⟨s, rfl, q1⟩
  · obtain ⟨k', b, rfl, q2⟩ := onInt_inv q1 hd
    obtain ⟨hk, q3⟩ := sw_inv q2 hd
    have hk := Nat.eq_of_beq_eq_true hk
    subst hk
    refine ⟨by simp [sameSort], ?_⟩
    rw [eqI_eq] at q3
    by_cases hab : a = b
    · rw [decide_eq_true hab] at q3; exact .inl ⟨by rw [hab], q3⟩
    · rw [decide_eq_false hab] at q3; exact .inr ⟨by simpa using hab, q3⟩
  · obtain ⟨t, rfl, q2⟩ := onStr_inv q1 hd
    refine ⟨rfl, ?_⟩
    rw [eqX_iff] at q2
    by_cases hab : s = t
    · rw [decide_eq_true hab] at q2; exact .inl ⟨by rw [hab], q2⟩
    · rw [decide_eq_false hab] at q2; exact .inr ⟨by simpa using hab, q2⟩
theorem findE_inv {α : Type} {x : AV} {f : AV → α} {g d y : α} (hd : d ≠ y) : ∀ {l : List (AV × AV)}, findE x l f g d = y →
    (∃ A v B, l = A ++ (x, v) :: B ∧ sameSort x x = true ∧ f v = y) ∨ ((∀ e ∈ l, e.1 ≠ x ∧ sameSort x e.1 = true) ∧ g = y)
  | [], h => .inr ⟨by simp, h⟩
  | (k, v) :: l, h => by
    change eqKey x k (fun b => sw b (f v) (findE x l f g d)) d = y at h
    obtain ⟨hs, h1⟩ := eqKey_inv h hd
    rcases h1 with ⟨rfl, h1⟩ | ⟨hx, h1⟩
    · exact .inl ⟨[], v, l, rfl, hs, h1⟩
    · rw [sw_false] at h1
      rcases findE_inv hd h1 with ⟨A, u, B, rfl, h2, h3⟩ | ⟨h2, h3⟩
      · exact .inl ⟨(k, v) :: A, u, B, rfl, h2, h3⟩
      · refine .inr ⟨?_, h3⟩
        intro e he
        cases he with
        | head => exact ⟨fun e => hx e.symm, hs⟩
        | tail _ he => exact h2 e he
theorem putE_inv {x v : AV} : ∀ {l l' : List (AV × AV)}, putE x v l = some l' →
    (∃ A u B, l = A ++ (x, u) :: B ∧ l' = A ++ (x, v) :: B ∧ sameSort x x = true) ∨ ((∀ e ∈ l, e.1 ≠ x ∧ sameSort x e.1 = true) ∧ l' = l ++ [(x, v)])
  | [], l', h => by cases h; exact .inr ⟨by simp, rfl⟩
  | (k, u) :: l, l', h => by
    change eqKey x k (fun b => sw b (some ((x, v) :: l)) (onOpt (putE x v l) (fun r => some ((k, u) :: r)) none)) none = some l' at h
    obtain ⟨hs, h1⟩ := eqKey_inv h (by simp)
    rcases h1 with ⟨rfl, h1⟩ | ⟨hx, h1⟩
    · rw [sw_true] at h1
      cases h1
      exact .inl ⟨[], u, l, rfl, rfl, hs⟩
    · rw [sw_false] at h1
      obtain ⟨r, hr, h1⟩ := onOpt_inv h1 (by simp)
      cases h1
      rcases putE_inv hr with ⟨A, u', B, rfl, rfl, h3⟩ | ⟨h2, rfl⟩
      · exact .inl ⟨(k, u) :: A, u', B, rfl, rfl, h3⟩
      · refine .inr ⟨?_, rfl⟩
        intro e he
        cases he with
        | head => exact ⟨fun e => hx e.symm, hs⟩
        | tail _ he => exact h2 e he
theorem conKV_cons {ρ : Rho} {k v : AV} {l : List (AV × AV)} {kvs : List (Value × Value)} : conKV ρ σ ((k, v) :: l) = some kvs ↔ ∃ K V t, con ρ σ k = some K ∧ con ρ σ v = some V ∧ conKV ρ σ l = some t ∧ kvs = (K, V) :: t := by
  simp only [conKV]
  constructor
  · intro h
    cases h1 : con ρ σ k with
    | none => rw [h1] at h; simp at h
    | some K => cases h2 : con ρ σ v with
      | none => rw [h1, h2] at h; simp at h
      | some V => cases h3 : conKV ρ σ l with
        | none => rw [h1, h2, h3] at h; simp at h
        | some t => rw [h1, h2, h3] at h; exact ⟨K, V, t, rfl, rfl, rfl, by simpa using h.symm⟩
  · rintro ⟨K, V, t, h1, h2, h3, rfl⟩
    rw [h1, h2, h3]
theorem conKV_append {ρ : Rho} : ∀ {A B : List (AV × AV)} {kvs : List (Value × Value)}, conKV ρ σ (A ++ B) = some kvs ↔ ∃ a b, conKV ρ σ A = some a ∧ conKV ρ σ B = some b ∧ kvs = a ++ b
  | [], B, kvs => by
    constructor
    · intro h; exact ⟨[], kvs, rfl, h, rfl⟩
    · rintro ⟨a, b, h1, h2, rfl⟩; cases h1; exact h2
  | (k, v) :: A, B, kvs => by
    rw [List.cons_append, conKV_cons]
    constructor
    · rintro ⟨K, V, t, h1, h2, h3, rfl⟩
      obtain ⟨a, b, h4, h5, rfl⟩ := conKV_append.1 h3
      exact ⟨(K, V) :: a, b, conKV_cons.2 ⟨K, V, a, h1, h2, h4, rfl⟩, h5, rfl⟩
    · rintro ⟨a, b, h1, h2, rfl⟩
      obtain ⟨K, V, t, h3, h4, h5, rfl⟩ := conKV_cons.1 h1
      exact ⟨K, V, t ++ b, h3, h4, conKV_append.2 ⟨t, b, h5, h2, rfl⟩, rfl⟩
theorem conKV_length {ρ : Rho} : ∀ {l : List (AV × AV)} {kvs : List (Value × Value)}, conKV ρ σ l = some kvs → kvs.length = l.length
  | [], kvs, h => by cases h; rfl
  | (k, v) :: l, kvs, h => by
    obtain ⟨K, V, t, _, _, h3, rfl⟩ := conKV_cons.1 h
    simp [conKV_length h3]
theorem conKV_mem {ρ : Rho} : ∀ {l : List (AV × AV)} {kvs : List (Value × Value)} {p : Value × Value}, conKV ρ σ l = some kvs → p ∈ kvs → ∃ e ∈ l, con ρ σ e.1 = some p.1 ∧ con ρ σ e.2 = some p.2
  | [], kvs, p, h, hp => by cases h; cases hp
  | (k, v) :: l, kvs, p, h, hp => by
    obtain ⟨K, V, t, h1, h2, h3, rfl⟩ := conKV_cons.1 h
    cases hp with
    | head => exact ⟨(k, v), by simp, h1, h2⟩
    | tail _ hp =>
      obtain ⟨e, he, h4⟩ := conKV_mem h3 hp
      exact ⟨e, by simp [he], h4⟩
/-- what a key of a map's sort is to the model -/
theorem okKey_isKey {ρ : Rho} {k : TypeId} {x : AV} {X : Value} (h : okKey (keySort P k) x = true) (hx : con ρ σ x = some X) : ∃ d, P.underlying k = some d ∧ MapKept.IsKey d X ∧
    ∀ (y : AV) (Y : Value), sameSort x y = true → con ρ σ y = some Y → MapKept.IsKey d Y := by
  unfold okKey at h
  rcases onNum_inv h (by simp) with ⟨kk, n, rfl, q⟩ | ⟨s, rfl, q⟩
  · have q := Nat.eq_of_beq_eq_true q
    unfold keySort at q
    cases hu : P.underlying k with
    | none => rw [hu] at q; change 10 + kk = 0 at q; omega
    | some d =>
      rw [hu] at q
      cases d <;> first | (change 10 + kk = 0 at q; omega) | (change 10 + kk = 1 at q; omega) | skip
      rename_i ki
      have q : 10 + kk = 10 + kcode ki := q
      have q : kk = kcode ki := by omega
      subst q
      obtain ⟨_, rfl⟩ := con_int hx
      refine ⟨_, rfl, by simp [MapKept.IsKey, kindOf_kcode], ?_⟩
      intro y Y hs hy
      cases y <;> simp only [sameSort, Bool.false_eq_true] at hs
      rename_i k' n'
      have : kcode ki = k' := by simpa using hs
      subst this
      obtain ⟨_, rfl⟩ := con_int hy
      simp [MapKept.IsKey, kindOf_kcode]
  · have q := Nat.eq_of_beq_eq_true q
    unfold keySort at q
    cases hu : P.underlying k with
    | none => rw [hu] at q; change 0 = 1 at q; omega
    | some d =>
      rw [hu] at q
      cases d <;> first | (change 0 = 1 at q; omega) | (rename_i ki; change 10 + kcode ki = 1 at q; omega) | skip
      obtain ⟨_, rfl⟩ := con_str hx
      refine ⟨_, rfl, trivial, ?_⟩
      intro y Y hs hy
      cases y <;> simp only [sameSort, Bool.false_eq_true] at hs
      obtain ⟨_, rfl⟩ := con_str hy
      trivial
theorem live_map_b {ρ : Rho} {h : AH} {w : World} {b : Nat} {p : Place} {l : List (AV × AV)} (R : Rel P.globals.size ρ σ h w) (hp : ρ b = some p) (hb : hget h b = .map l) :
    Live h b ∧ ∃ es clock, w.heap[p.blk]? = some (.map es clock) ∧ MapOk ρ σ es l ∧ Borns es clock := by
  have hl : Live h b := ⟨Nat.lt_of_lt_of_le (R.dom b p hp) R.nx, by rw [hb]; simp⟩
  obtain ⟨q, hq, _, hB⟩ := R.live b hl
  rw [hp] at hq; cases hq
  rw [hb] at hB
  exact ⟨hl, hB⟩
theorem live_map {ρ : Rho} {h : AH} {w : World} {b : Nat} {p : Place} {l : List (AV × AV)} (R : Rel P.globals.size ρ σ h w) (hp : ρ b = some p) (hb : hget h b = .map l) :
    Live h b ∧ ∃ es clock, w.heap[p.blk]? = some (.map es clock) ∧ MapOk ρ σ es l := by
  obtain ⟨h1, es, clock, h2, h3, _⟩ := live_map_b R hp hb
  exact ⟨h1, es, clock, h2, h3⟩
/-- every entry's key is one of the abstract map's -/
theorem entry_key {ρ : Rho} {es : Array MapEntry} {l : List (AV × AV)} (M : MapOk ρ σ es l) {e : MapEntry} (he : e ∈ es.toList) : ∃ a ∈ l, con ρ σ a.1 = some e.key ∧ con ρ σ a.2 = some e.val := by
  obtain ⟨kvs, h1, h2⟩ := M.perm
  have hm : (e.key, e.val) ∈ kvs := h2.subset (List.mem_map.2 ⟨e, he, rfl⟩)
  exact conKV_mem h1 hm
/-- looking a key up in the model's entries -/
theorem find_run {ρ : Rho} {es : Array MapEntry} {l : List (AV × AV)} {k : TypeId} {x : AV} {X : Value} {w : World} (M : MapOk ρ σ es l) (hk : okKey (keySort P k) x = true) (hx : con ρ σ x = some X)
    (hsort : ∀ a ∈ l, sameSort x a.1 = true) :
    ((∀ a ∈ l, a.1 ≠ x) → (Instr.findKey k X es.toList).run P w = .ok none w) ∧
    (∀ A v B, l = A ++ (x, v) :: B → ∃ j e, (Instr.findKey k X es.toList).run P w = .ok (some (j, e.val)) w ∧ es[j]? = some e ∧ e.key = X ∧ con ρ σ v = some e.val) := by
  obtain ⟨d, hd, hX, hkeys⟩ := okKey_isKey hk hx
  have hall : ∀ e ∈ es.toList, MapKept.IsKey d e.key := by
    intro e he
    obtain ⟨a, ha, h1, _⟩ := entry_key M he
    exact hkeys a.1 e.key (hsort a ha) h1
  rcases MapKept.findNow_spec hX es.toList 0 hall with ⟨h1, h2⟩ | ⟨j, e, h1, h2, h3⟩
  · refine ⟨fun _ => MapKept.run_findKey hd h1, ?_⟩
    intro A v B hl
    exfalso
    obtain ⟨kvs, h4, h5⟩ := M.perm
    rw [hl] at h4
    obtain ⟨a, b, _, h6, rfl⟩ := conKV_append.1 h4
    obtain ⟨K, V, t, h7, _, _, rfl⟩ := conKV_cons.1 h6
    rw [hx] at h7; cases h7
    have : (X, V) ∈ es.toList.map fun e => (e.key, e.val) := h5.symm.subset (by simp)
    obtain ⟨e, he, heq⟩ := List.mem_map.1 this
    exact h2 e he (by simpa using (Prod.mk.inj heq).1)
  · have hmem : e ∈ es.toList := List.mem_of_getElem? h2
    refine ⟨fun hno => ?_, ?_⟩
    · exfalso
      obtain ⟨a, ha, h4, _⟩ := entry_key M hmem
      rw [h3] at h4
      exact hno a ha (con_inj (hsort a ha) hx h4).symm
    · intro A v B hl
      refine ⟨j, e, by simpa using MapKept.run_findKey hd h1, by simpa using h2, h3, ?_⟩
      obtain ⟨a, ha, h4, h5⟩ := entry_key M hmem
      rw [h3] at h4
      have hax := con_inj (hsort a ha) hx h4
      -- the one entry of that key
      obtain ⟨ak, av⟩ := a
      change x = ak at hax
      subst ak
      rw [hl] at ha
      have hap := M.apart
      rw [hl, List.pairwise_append] at hap
      obtain ⟨_, hB, hAB⟩ := hap
      rw [List.pairwise_cons] at hB
      rcases List.mem_append.1 ha with ha | ha
      · exact absurd rfl (hAB _ ha (x, v) (by simp))
      · cases ha with
        | head => exact h5
        | tail _ ha => exact absurd rfl (hB.1 (x, av) ha)
theorem sort_of_find {l : List (AV × AV)} {ρ : Rho} {es : Array MapEntry} (M : MapOk ρ σ es l) {x v : AV} {A B : List (AV × AV)} (hl : l = A ++ (x, v) :: B) : ∀ a ∈ l, sameSort x a.1 = true := by
  intro a ha
  exact M.sort (x, v) (by rw [hl]; simp) a ha
theorem lookup_ok {t k e : TypeId} {m x : Operand} {z : AV} {c : Bool} (ho : o.op = .lookup t m x c) (hm : okOpd P nt m = true) (hx : okOpd P nt x = true) (ht : mapOf P t = some (k, e)) (hz : zeroV P e = some z) :
    ReadOk P σ nt o (fun r h => lookupV (keySort P k) z c h ((cOpd m).run r) ((cOpd x).run r)) := by
  intro ρ h w r a v C ev
  have h1 := C.opd hm
  have h2 := C.opd hx
  have hu : P.underlying t = some (.map k e) := by
    unfold mapOf at ht
    cases hu : P.underlying t with
    | none => rw [hu] at ht; cases ht
    | some d => rw [hu] at ht; cases d <;> simp at ht; obtain ⟨rfl, rfl⟩ := ht; rfl
  obtain ⟨Z, hZ, hZc⟩ : ∃ Z, (zeroValue e).run P w = .ok Z w ∧ con ρ σ z = some Z := by
    unfold zeroV at hz
    cases hi : P.info? e with
    | none => rw [hi] at hz; cases hz
    | some i =>
      rw [hi] at hz
      simp only at hz
      cases hzz : i.zero with
      | none => rw [hzz] at hz; cases hz
      | some Z =>
        rw [hzz] at hz
        simp only at hz
        split at hz
        · rename_i hok
          cases hz
          exact ⟨Z, by simp [zeroValue, typeInfo, hi, hzz], con_absV hok⟩
        · cases hz
  obtain ⟨hkey, ev⟩ := sw_inv ev (by simp)
  have hcheck : ∀ em, (Instr.checkKey em 10000 k (a.eval x)).run P w = .ok () w := by
    intro em
    obtain ⟨d, hd, hX, _⟩ := okKey_isKey hkey h2
    exact MapKept.run_checkKey hd hX em 9999
  -- how it ends
  have fin : ∀ {u : AV} {U : Value} {b : Bool}, sw c (R1.ok (.tup [u, .bool b])) (.ok u) = .ok v → con ρ σ u = some U → con ρ σ v = some (if c then .tuple #[U, .bool b] else U) := by
    intro u U b he hU
    cases c with
    | true => cases he; exact con_tup_mk (conL_cons.2 ⟨U, [.bool b], hU, rfl, rfl⟩)
    | false => cases he; exact hU
  rcases onMapN_inv ev (by simp) with ⟨hv, ev⟩ | ⟨b, hv, ev⟩
  · rw [hv] at h1
    have hX : a.eval m = .map none := by simpa [con] using h1.symm
    refine ⟨_, ?_, fin ev hZc⟩
    simp only [execOp, ho]
    refine run_v ?_
    rw [hX]
    have hf : (Instr.findKey k (a.eval x) (#[] : Array MapEntry).toList).run P w = .ok none w := by
      obtain ⟨d, hd, _, _⟩ := okKey_isKey hkey h2
      exact MapKept.run_findKey hd rfl
    simp only [Instr.lookup, Sem.run_bind, run_underlying' hu, Result.andThen_ok, Sem.run_pure, hcheck, hf, hZ]
  · rw [hv] at h1
    obtain ⟨p, hp, hX⟩ := con_map h1
    obtain ⟨l, hl, ev⟩ := onMapB_inv ev (by simp)
    obtain ⟨_, es, clock, hh, M⟩ := live_map C.rel hp hl
    rcases findE_inv (by simp) ev with ⟨A, u, B, hlA, _, ev⟩ | ⟨hno, ev⟩
    · obtain ⟨j, en, hf, _, _, hval⟩ := (find_run (w := w) M hkey h2 (sort_of_find M hlA)).2 A u B hlA
      refine ⟨_, ?_, fin ev hval⟩
      simp only [execOp, ho]
      refine run_v ?_
      rw [hX]
      simp only [Instr.lookup, Sem.run_bind, run_underlying' hu, Result.andThen_ok, MapKept.run_getObj_map hh, Sem.run_pure, hcheck, hf]
    · have hf := (find_run (w := w) M hkey h2 (fun a ha => (hno a ha).2)).1 (fun a ha => (hno a ha).1)
      refine ⟨_, ?_, fin ev hZc⟩
      simp only [execOp, ho]
      refine run_v ?_
      rw [hX]
      simp only [Instr.lookup, Sem.run_bind, run_underlying' hu, Result.andThen_ok, MapKept.run_getObj_map hh, Sem.run_pure, hcheck, hf, hZ]
theorem len_map_ok {t k e : TypeId} {x : Operand} {ts : Array TypeId} (ho : o.op = .call { callee := .builtin .len, args := #[x], argTypes := ts }) (ht : ts[0]? = some t) (hx : okOpd P nt x = true) (hu : P.underlying t = some (.map k e)) :
    ReadOk P σ nt o (fun r h => onMapN ((cOpd x).run r) (.ok (.int 3 (Int.ofNat 0))) (fun b => onMapB (hget h b) (fun l => .ok (.int 3 (Int.ofNat (lenX l)))) .no) .no) := by
  intro ρ h w r a v C ev
  have h1 := C.opd hx
  rcases onMapN_inv ev (by simp) with ⟨hv, ev⟩ | ⟨b, hv, ev⟩
  · cases ev
    rw [hv] at h1
    have hX : a.eval x = .map none := by simpa [con] using h1.symm
    refine ⟨goInt 0, len_run (t := t) ho ?_, con_int_mk (by decide) _⟩
    simp [Builtin.len_, ht, run_underlying' hu, hX]
  · rw [hv] at h1
    obtain ⟨p, hp, hX⟩ := con_map h1
    obtain ⟨l, hl, ev⟩ := onMapB_inv ev (by simp)
    cases ev
    obtain ⟨_, es, clock, hh, M⟩ := live_map C.rel hp hl
    have hlen : es.size = l.length := by
      obtain ⟨kvs, h4, h5⟩ := M.perm
      have h6 := h5.length_eq
      rw [List.length_map, Array.length_toList] at h6
      have := conKV_length h4
      omega
    refine ⟨goInt es.size, len_run (t := t) ho ?_, ?_⟩
    · simp [Builtin.len_, ht, run_underlying' hu, hX, MapKept.run_getObj_map hh]
    · rw [hlen, lenX_eq]; exact con_int_mk (by decide) _
end
end Go.Proofs.YteahdpjeoeeemaaGreatDoor.Ax

namespace Go.Proofs.YteahdpjeoeeemaaGreatDoor.Ax
set_option linter.unusedVariables false
set_option linter.unusedSimpArgs false
set_option linter.unnecessarySimpa false

section
variable {P : Program} {σ : Nat → ByteArray} {nt : Nat} {o : Oper}

theorem bytesL_inv : ∀ {l : List AV} {s : List Nat}, bytesL l = some s → l = s.map (fun c => AV.int 4 (Int.ofNat c)) ∧ s.all (· < 256) = true
  | [], s, h => by cases h; exact ⟨rfl, rfl⟩
  | v :: l, s, h => by
    change onInt v (fun k n => sw (Nat.beq k 4) (onNat n (fun m => sw (Nat.blt m 256) (onOpt (bytesL l) (fun r => some (m :: r)) none) none) none) none) none = some s at h
    obtain ⟨k, n, rfl, q1⟩ := onInt_inv h (by simp)
    obtain ⟨hk, q2⟩ := sw_inv q1 (by simp)
    obtain ⟨m, rfl, q3⟩ := onNat_inv q2 (by simp)
    obtain ⟨hm, q4⟩ := sw_inv q3 (by simp)
    obtain ⟨r, hr, q5⟩ := onOpt_inv q4 (by simp)
    cases q5
    obtain ⟨h1, h2⟩ := bytesL_inv hr
    rw [blt_dec, decide_eq_true_eq] at hm
    have hk := Nat.eq_of_beq_eq_true hk
    subst hk
    exact ⟨by rw [h1]; rfl, by simp only [List.all_cons, h2, Bool.and_true, decide_eq_true_eq]; exact hm⟩
theorem conL_bytes {ρ : Rho} : ∀ {s : List Nat} {xs : List Value}, conL ρ σ (s.map (fun c => AV.int 4 (Int.ofNat c))) = some xs → xs = s.map fun (c : Nat) => Value.int .u8 (c : Int)
  | [], xs, h => by cases h; rfl
  | c :: s, xs, h => by
    obtain ⟨x, t, h1, h2, rfl⟩ := conL_cons.1 h
    obtain ⟨_, rfl⟩ := con_int h1
    rw [conL_bytes h2]; rfl
theorem conv_bytes_ok {s d e : TypeId} {x : Operand} (ho : o.op = .convert s d x) (hx : okOpd P nt x = true) (hs : P.underlying s = some (.slice e)) (he : P.underlying e = some (.int .u8)) (hd : P.underlying d = some .string) :
    ReadOk P σ nt o (fun r h => onSl ((cOpd x).run r) (.ok (.str [])) (fun b q n _ _ => ldL h b q n (fun l => onOpt (bytesL l) (fun s => .ok (.str s)) .no) .no) .no) := by
  intro ρ h w r a v C ev
  have h1 := C.opd hx
  rcases onSl_inv ev (by simp) with ⟨hv, ev⟩ | ⟨b, q, n, c, es, hv, ev⟩
  · cases ev
    rw [hv] at h1
    have hX : a.eval x = .slice none 0 0 := by simpa [con] using h1.symm
    refine ⟨.string .empty, ?_, con_str_mk rfl⟩
    simp only [execOp, ho]
    refine run_v ?_
    rw [hX]
    exact run_convert_bytes_nil w s e hs he 0 0 d hd
  · rw [hv] at h1
    obtain ⟨p, hp, hX, _⟩ := con_slice h1
    obtain ⟨l, el, ro, wh, hb, e1⟩ := onCells_inv ev (by simp)
    obtain ⟨vs, hvs, e2⟩ := onOpt_inv e1 (by simp)
    obtain ⟨t, ht, e3⟩ := onOpt_inv e2 (by simp)
    cases e3
    obtain ⟨hl, c', fz, hh, H⟩ := live_cells C.rel hp hb
    obtain ⟨xs, hxs, _, hn, _⟩ := ldN_run (P := P) hh H hvs
    obtain ⟨hvs2, ht256⟩ := bytesL_inv ht
    rw [hvs2] at hxs hn
    have hxs2 := conL_bytes hxs
    rw [List.length_map] at hn
    rw [dropX_eq] at hvs
    obtain ⟨hle, hvs3⟩ := takeX_some hvs
    refine ⟨.string ⟨(t.map UInt8.ofNat).toArray⟩, ?_, con_str_mk ht256⟩
    simp only [execOp, ho]
    refine run_v ?_
    rw [hX]
    have := run_convert_bytes_arg (P := P) w s e hs he p.blk (p.base + q) n (if es = 0 then c else (p.size - (p.base + q)) / es) (t.map fun (c : Nat) => (c : Int)) (by simpa using hn) (fun i hi => by
      have hi2 : i < t.length := by omega
      have hg : l[q + i]? = some (.int 4 (Int.ofNat t[i])) := by
        have h3 : vs[i]? = some (.int 4 (Int.ofNat t[i])) := by rw [hvs2]; simp [hi2]
        rw [hvs3, List.getElem?_take, if_pos (by omega), List.getElem?_drop] at h3
        exact h3
      obtain ⟨x', hx', _, hc⟩ := cell_of hh H hg
      obtain ⟨_, rfl⟩ := con_int hx'
      rw [Nat.add_assoc, hc]
      simp [List.getD, hi2, kindOf]) d hd
    rw [this]
    congr 3
    unfold strOfNums
    congr 2
    rw [List.map_map]
    apply List.map_congr_left
    intro c _
    simp

/-! pointers seen as others -/
theorem shape_of {w : World} {b : Nat} {c : Array Value} {e : TypeId} {fz : Nat × Nat} (h : w.heap[b]? = some (.cells c e fz)) : w.shape? b = some (e, c.size) := by
  unfold World.shape?; rw [h]
theorem conv_up_ok {s d t : TypeId} {x : Operand} (ho : o.op = .convert s d x) (hx : okOpd P nt x = true) (hs : P.underlying s = some (.pointer t)) (hd : P.underlying d = some .unsafePointer) (hz : sizeT P t ≠ 0) :
    ReadOk P σ nt o (fun r h => onPtr ((cOpd x).run r) (fun b q => onCells (hget h b) (fun l _ _ _ => sw (Nat.blt q (lenX l)) (.ok (.ptr b q)) .no) .no) .no) := by
  intro ρ h w r a v C ev
  have h1 := C.opd hx
  obtain ⟨b, q, hb, e1⟩ := onPtr_inv ev (by simp)
  obtain ⟨l, el, ro, wh, hc, e2⟩ := onCells_inv e1 (by simp)
  obtain ⟨hlt, e3⟩ := sw_inv e2 (by simp)
  cases e3
  rw [blt_dec, decide_eq_true_eq, lenX_eq] at hlt
  rw [hb] at h1
  obtain ⟨p, hp, hX⟩ := con_ptr h1
  obtain ⟨_, c, fz, hh, H⟩ := live_cells C.rel hp hc
  have hinf : ∃ i, P.info? t = some i := by
    unfold sizeT at hz
    cases hi : P.info? t with
    | none => rw [hi] at hz; exact absurd rfl hz
    | some i => exact ⟨i, rfl⟩
  obtain ⟨i, hi⟩ := hinf
  refine ⟨.pointer (some ⟨p.blk, p.base + q, none⟩), ?_, con_ptr_mk hp⟩
  simp only [execOp, ho]
  refine run_v ?_
  rw [hX]
  have hsh := shape_of hh
  have hfit := H.fits
  have hsz := H.size
  have hview : (viewAt p.blk).run P w = .ok none w := by
    simp [viewAt, hsh]
  have hseen : (Conv.seenAt ⟨p.blk, p.base + q, none⟩).run P w = .ok ⟨p.blk, p.base + q, none⟩ w := by
    simp [Conv.seenAt, hview]
  have hcin : (cellsIn p.blk).run P w = .ok (some c.size) w := by
    simp [cellsIn, hsh]
  unfold convert
  simp only [Sem.run_bind, run_underlying' hs, run_underlying' hd, Result.andThen_ok]
  unfold Conv.unsafePointer
  simp only [Sem.run_bind, run_underlying' hs, run_underlying' hd, Result.andThen_ok, hseen, hcin, sizeT_run hi]
  have hno : ((sizeT P t = 0 : Bool) || (decide (p.base + q ≥ c.size) && (none : Option Nat).isNone)) = false := by
    simp [hz]; omega
  rw [if_neg (by simp [hz]; omega)]
  rfl
theorem conv_down_ok {s d u : TypeId} {x : Operand} (ho : o.op = .convert s d x) (hx : okOpd P nt x = true) (hs : P.underlying s = some .unsafePointer) (hd : P.underlying d = some (.pointer u)) (hz : sizeT P u ≠ 0) :
    ReadOk P σ nt o (fun r h => onPtr ((cOpd x).run r) (fun b q => onCells (hget h b) (fun l e _ wh => sw (andB wh (andB (Nat.beq q 0) (andB (Nat.beq e u) (Nat.beq (lenX l) (sizeT P u))))) (.ok (.ptr b q)) .no) .no) .no) := by
  intro ρ h w r a v C ev
  have h1 := C.opd hx
  obtain ⟨b, q, hb, e1⟩ := onPtr_inv ev (by simp)
  obtain ⟨l, el, ro, wh, hc, e2⟩ := onCells_inv e1 (by simp)
  obtain ⟨hlt, e3⟩ := sw_inv e2 (by simp)
  cases e3
  simp only [andB_eq, beq_dec, lenX_eq, Bool.and_eq_true, decide_eq_true_eq] at hlt
  obtain ⟨hwh, rfl, rfl, hlen⟩ := hlt
  rw [hb] at h1
  obtain ⟨p, hp, hX⟩ := con_ptr h1
  obtain ⟨_, c, fz, hh, H⟩ := live_cells C.rel hp hc
  obtain ⟨hbase, hpsz⟩ := H.whole hwh
  have hinf : ∃ i, P.info? el = some i := by
    unfold sizeT at hz
    cases hi : P.info? el with
    | none => rw [hi] at hz; exact absurd rfl hz
    | some i => exact ⟨i, rfl⟩
  obtain ⟨i, hi⟩ := hinf
  have hcs : P.cellsOf el = sizeT P el := by simp [Program.cellsOf, sizeT, hi]
  have hcsz : c.size = sizeT P el := by rw [H.size, hpsz, hlen]
  refine ⟨.pointer (some ⟨p.blk, p.base + 0, none⟩), ?_, con_ptr_mk hp⟩
  simp only [execOp, ho]
  refine run_v ?_
  rw [hX]
  have hsh := shape_of hh
  have hview : (viewAt p.blk).run P w = .ok none w := by
    simp [viewAt, hsh]
  have hseen : (Conv.seenAt ⟨p.blk, p.base + 0, none⟩).run P w = .ok ⟨p.blk, p.base + 0, none⟩ w := by
    simp [Conv.seenAt, hview]
  have hdep : ∃ d, P.depth = d + 1 := ⟨2 * (P.types.size + Made.depth) + 1, rfl⟩
  obtain ⟨dd, hdd⟩ := hdep
  have hlies : liesAt P P.depth el (c.size / P.cellsOf el) (p.base + 0) el 1 = true := by
    rw [hdd]
    unfold liesAt
    rw [Bool.or_eq_true]
    left
    rw [hdd]
    unfold rowAt
    have h1 : P.cellsOf el ≠ 0 := by rw [hcs]; exact hz
    have h2 : sameLayout P (dd + 1) el el = true := by unfold sameLayout; simp
    have h3 : c.size / P.cellsOf el = 1 := by rw [hcs, hcsz]; exact Nat.div_self (Nat.pos_of_ne_zero hz)
    simp [h1, h2, h3, hbase]
  have hvar : (variablesAt ⟨p.blk, p.base + 0, none⟩ el 1).run P w = .ok true w := by
    simp only [variablesAt, Sem.run_bind, run_program, Result.andThen_ok, run_shape, hsh, Sem.run_pure, hlies]
  unfold convert
  simp only [Sem.run_bind, run_underlying' hs, run_underlying' hd, Result.andThen_ok]
  unfold Conv.unsafePointer
  simp only [Sem.run_bind, run_underlying' hs, run_underlying' hd, Result.andThen_ok, hseen, hvar, sizeT_run hi]
  rw [if_pos (by simp)]
  rfl

/-! one new block -/
theorem cellsOk_new {ρ : Rho} {l : List AV} {xs : List Value} {b : Nat} {ro wh : Bool} (hl : conL ρ σ l = some xs) (hc : l.all isCell = true) (hro : ro = false := by rfl) : CellsOk ρ σ ⟨b, 0, xs.length, none⟩ xs.toArray (0, 0) l ro wh := by
  have hlen := conL_length hl
  refine ⟨by simp, by simp [hlen], ?_, fun _ j _ _ h => by simp at h, fun _ => ⟨rfl, by simp [hlen]⟩, fun hr => by rw [hro] at hr; cases hr⟩
  intro j v hj
  obtain ⟨x, hx, hcx⟩ := conL_get hl hj
  exact ⟨List.all_eq_true.1 hc v (List.mem_of_getElem? hj), x, hcx, by simpa using hx⟩
theorem run_newRow (e : TypeId) (cs : Array Value) (w : World) : (newRow e cs).run P w = .ok ⟨w.heap.size, 0, none⟩ { w with heap := w.heap.push (.cells cs e) } := by
  simp [newRow]
theorem alloc_ok {e : TypeId} {z : List AV} (ho : o.op = .alloc e) (hz : zeroL P e = some z) : AllocOk P σ nt o (fun _ id => .ok (.ptr id 0) (.cells z e false true)) := by
  intro ρ h w r a id v b C ev
  cases ev
  obtain ⟨Z, hZ, hZc⟩ := zero_run (w := w) (σ := σ) hz
  refine ⟨.pointer (some ⟨w.heap.size, 0, none⟩), { w with heap := w.heap.push (.cells Z.cells e) }, .cells Z.cells e, ⟨w.heap.size, 0, Z.cells.size, none⟩, ?_, rfl, rfl, rfl, rfl, rfl, ?_⟩
  · simp only [execOp, ho]
    refine run_v ?_
    simp only [Instr.alloc, Sem.run_bind, hZ, Result.andThen_ok, newVar, run_newRow, Sem.run_pure]
  · intro ρ' hle hid
    obtain ⟨h1, h2⟩ := hZc ρ'
    refine ⟨⟨Z.cells, (0, 0), rfl, ?_⟩, con_ptr_mk hid⟩
    have := cellsOk_new (σ := σ) (b := w.heap.size) (ro := false) (wh := true) h1 h2
    simpa using this
theorem box_ok {e : TypeId} {x : Operand} (ho : o.op = .box e x) (hx : okOpd P nt x = true) : AllocOk P σ nt o (fun r id => cellsX ((cOpd x).run r) (fun cs => .ok (.ptr id 0) (.cells cs e false true)) .no) := by
  intro ρ h w r a id v b C ev
  obtain ⟨cs, hcs, ev⟩ := cells_inv ev (by simp)
  cases ev
  obtain ⟨h1, h2⟩ := cells_ok (C.opd hx) hcs
  refine ⟨.pointer (some ⟨w.heap.size, 0, none⟩), { w with heap := w.heap.push (.cells (a.eval x).cells e) }, .cells (a.eval x).cells e, ⟨w.heap.size, 0, (a.eval x).cells.size, none⟩, ?_, rfl, rfl, rfl, rfl, rfl, ?_⟩
  · simp only [execOp, ho]
    refine run_v ?_
    simp only [Instr.box, newVar, Sem.run_bind, run_newRow, Result.andThen_ok, Sem.run_pure]
  · intro ρ' hle hid
    refine ⟨⟨(a.eval x).cells, (0, 0), rfl, ?_⟩, con_ptr_mk hid⟩
    have := cellsOk_new (σ := σ) (b := w.heap.size) (ro := false) (wh := true) (conL_mono hle cs _ h1) h2
    simpa using this
theorem makeMap_ok {t : TypeId} (ho : o.op = .makeMap t none) : AllocOk P σ nt o (fun _ id => .ok (.map id) (.map [])) := by
  intro ρ h w r a id v b C ev
  cases ev
  refine ⟨.map (some w.heap.size), { w with heap := w.heap.push (.map #[] 0) }, .map #[] 0, ⟨w.heap.size, 0, 0, none⟩, ?_, rfl, rfl, rfl, rfl, rfl, ?_⟩
  · simp only [execOp, ho]
    refine run_v ?_
    simp [Instr.makeMap]
  · intro ρ' hle hid
    refine ⟨⟨#[], 0, rfl, ⟨⟨[], rfl, by simp⟩, by simp, by simp⟩, by simp [Borns]⟩, by simp [con, hid]⟩
theorem range_ok {t : TypeId} {x : Operand} (ho : o.op = .range t x) (hx : okOpd P nt x = true) (hu : P.underlying t = some .string) : AllocOk P σ nt o (fun r id => onStr ((cOpd x).run r) (fun s => .ok (.ptr id 0) (.siter s 0)) .no) := by
  intro ρ h w r a id v b C ev
  obtain ⟨s, hs, ev⟩ := onStr_inv ev (by simp)
  cases ev
  have h1 := C.opd hx
  rw [hs] at h1
  obtain ⟨h2, hX⟩ := con_str h1
  refine ⟨.pointer (some ⟨w.heap.size, 0, none⟩), { w with heap := w.heap.push (.stringIter ⟨(s.map UInt8.ofNat).toArray⟩ 0) }, .stringIter ⟨(s.map UInt8.ofNat).toArray⟩ 0, ⟨w.heap.size, 0, 0, none⟩, ?_, rfl, rfl, rfl, rfl, rfl, ?_⟩
  · simp only [execOp, ho]
    refine run_v ?_
    rw [hX]
    simp [Instr.range, run_underlying' hu]
  · intro ρ' hle hid
    exact ⟨⟨rfl, h2, rfl⟩, con_ptr_mk hid⟩
theorem zeros_len (z : List AV) : ∀ n, (zerosOf z n).length = n * z.length := zerosOf_length z
theorem conL_zeros {ρ : Rho} {z : List AV} {zs : List Value} (h : conL ρ σ z = some zs) : ∀ n, ∃ xs, conL ρ σ (zerosOf z n) = some xs ∧ xs.length = n * zs.length ∧ ∀ i, i < n * zs.length → xs[i]? = zs[i % zs.length]?
  | 0 => ⟨[], rfl, by simp, by simp⟩
  | n + 1 => by
    obtain ⟨xs, h1, h2, h3⟩ := conL_zeros h n
    refine ⟨zs ++ xs, ?_, by rw [List.length_append, h2, Nat.succ_mul]; omega, ?_⟩
    · show conL ρ σ (natR [] (fun _ ih => catX z ih) (n + 1)) = _
      rw [natR_succ, catX_eq]
      exact conL_append h h1
    · intro i hi
      rw [Nat.succ_mul] at hi
      by_cases hlt : i < zs.length
      · rw [List.getElem?_append_left hlt, Nat.mod_eq_of_lt hlt]
      · rw [List.getElem?_append_right (by omega), h3 _ (by omega)]
        congr 1
        rw [Nat.mod_eq_sub_mod (a := i) (by omega)]
theorem all_zeros {z : List AV} (h : z.all isCell = true) : ∀ n, (zerosOf z n).all isCell = true
  | 0 => rfl
  | n + 1 => by
    show (natR [] (fun _ ih => catX z ih) (n + 1)).all isCell = true
    rw [natR_succ, catX_eq, List.all_append, h]
    exact all_zeros h n
/-- zeros as the model lays them -/
theorem model_zeros {zs xs : List Value} {n : Nat} (hpos : zs.length ≠ 0 ∨ n = 0) (h2 : xs.length = n * zs.length) (h3 : ∀ i, i < n * zs.length → xs[i]? = zs[i % zs.length]?) :
    (Array.range (n * zs.length)).map (fun i => zs.toArray[i % zs.toArray.size]!) = xs.toArray := by
  apply Array.ext_getElem?
  intro i
  by_cases hi : i < n * zs.length
  · have hz : zs.length ≠ 0 := by
      rcases hpos with h | rfl
      · exact h
      · simp at hi
    have hm : i % zs.length < zs.length := Nat.mod_lt _ (Nat.pos_of_ne_zero hz)
    have e1 := h3 i hi
    rw [List.getElem?_eq_getElem hm] at e1
    have e2 : xs.toArray[i]? = some zs[i % zs.length] := by simpa using e1
    rw [e2]
    have hr : (Array.range (n * zs.length))[i]? = some i := by simp [hi]
    rw [Array.getElem?_map, hr]
    simp only [Option.map_some, List.size_toArray]
    rw [getElem!_pos zs.toArray _ (by simpa using hm)]
    simp
  · rw [Array.getElem?_eq_none (by simp; omega), Array.getElem?_eq_none (by simp; omega)]
end
end Go.Proofs.YteahdpjeoeeemaaGreatDoor.Ax

namespace Go.Proofs.YteahdpjeoeeemaaGreatDoor.Ax
set_option linter.unusedVariables false
set_option linter.unusedSimpArgs false
set_option linter.unnecessarySimpa false

section
variable {P : Program} {σ : Nat → ByteArray} {nt : Nat} {o : Oper}

theorem elem_of {t : TypeId} {e : Nat} (h : elemOfSl P t = some e) : P.underlying t = some (.slice e) := by
  unfold elemOfSl at h
  cases hu : P.underlying t with
  | none => rw [hu] at h; cases h
  | some d => rw [hu] at h; cases d <;> simp at h; rw [h]
theorem buildSlice_ok {t : TypeId} {e : Nat} {len : Nat} {parts : Array (Nat × Operand)} {z : List AV} {i : TypeInfo} (ho : o.op = .buildSlice t len parts) (hx : (parts.toList.map (·.2)).all (okOpd P nt) = true)
    (ht : elemOfSl P t = some e) (hz : zeroL P e = some z) (hi : P.info? e = some i) (hc : lenX z = i.size ∧ len * i.size ≤ 2 ^ 24) :
    AllocOk P σ nt o (fun r id => onOpt ((cFill (parts.toList.map fun p => (p.1 * i.size, i.size))).run ((cOpds (parts.toList.map (·.2))).run r) (zerosOf z len)) (fun l => .ok (.slice id 0 len len 0) (.cells l e false true)) .no) := by
  intro ρ h w r a id v b C ev
  obtain ⟨l, hl, ev⟩ := onOpt_inv ev (by simp)
  cases ev
  obtain ⟨Z, hZ, hZc⟩ := zero_run (w := w) (σ := σ) hz
  obtain ⟨hzc, hza⟩ := hZc ρ
  have hu := elem_of ht
  have hops := C.opds hx
  have hparts : (parts.map fun (p : Nat × Operand) => (p.1, a.eval p.2)).toList = (parts.toList.map (·.1)).zip ((parts.toList.map (·.2)).map a.eval) := by
    rw [Array.toList_map, List.map_map]
    generalize parts.toList = pl
    induction pl with
    | nil => rfl
    | cons p pl ih => simp [ih]
  have hzlen : Z.cells.toList.length = i.size := by rw [conL_length hzc, ← lenX_eq, hc.1]
  obtain ⟨zs, hz1, hz2, hz3⟩ := conL_zeros hzc len
  have hpl : (parts.toList.map (·.1)).map (fun j => some (j * i.size, i.size)) = (parts.toList.map fun p => (p.1 * i.size, i.size)).map some := by
    simp [List.map_map]
  obtain ⟨ls, h1, h2, h3⟩ := fill_ok (fun j => some (j * i.size, i.size)) _ _ _ _ _ _ _ hl hops hz1 (all_zeros hza len) hpl
  refine ⟨.slice (some ⟨w.heap.size, 0, none⟩) len len, { w with heap := w.heap.push (.cells ls.toArray e) }, .cells ls.toArray e, ⟨w.heap.size, 0, ls.length, none⟩, ?_, rfl, rfl, rfl, rfl, rfl, ?_⟩
  · simp only [execOp, ho]
    refine run_v ?_
    unfold Instr.buildSlice
    have hsz : sizeT P e = i.size := by simp [sizeT, hi]
    simp only [Sem.run_bind, run_underlying' hu, Result.andThen_ok, sizeT_run hi, hsz]
    rw [if_neg (by omega)]
    by_cases h0 : len * i.size = 0
    · rw [if_pos h0]
      have hzs : zs = [] := by
        apply List.eq_nil_of_length_eq_zero
        rw [hz2, hzlen, h0]
      have he : (Array.range (len * i.size)).map (fun j => (#[] : Array Value)[j % (#[] : Array Value).size]!) = zs.toArray := by
        rw [h0, hzs]; simp
      simp only [Sem.run_pure, Result.andThen_ok, he, hparts, h1, run_newRow, Sem.run_bind]
    · rw [if_neg h0]
      have he : (Array.range (len * i.size)).map (fun j => Z.cells[j % Z.cells.size]!) = zs.toArray := by
        have := model_zeros (zs := Z.cells.toList) (n := len) (.inl (by rw [hzlen]; intro e; rw [e] at h0; simp at h0)) hz2 hz3
        rw [hzlen] at this
        simpa using this
      simp only [Sem.run_bind, hZ, Sem.run_pure, Result.andThen_ok, he, hparts, h1, run_newRow]
  · intro ρ' hle hid
    refine ⟨⟨ls.toArray, (0, 0), rfl, cellsOk_new (conL_mono hle l _ h2) h3⟩, ?_⟩
    rw [con_slice_mk hid (.inl rfl), if_pos rfl]
theorem growElem_ok {e : TypeId} {es : Nat} (h : growElem P e = some es) : ∃ i z, P.info? e = some i ∧ i.zero = some z ∧ z.cells.size = es ∧ i.size = es ∧ 0 < es ∧ i.bytes ≤ 4096 := by
  unfold growElem at h
  cases hi : P.info? e with
  | none => rw [hi] at h; cases h
  | some i =>
    rw [hi] at h
    simp only at h
    cases hz : i.zero with
    | none => rw [hz] at h; cases h
    | some z =>
      rw [hz] at h
      simp only at h
      split at h
      · rename_i hc
        cases h
        exact ⟨i, z, rfl, hz, hc.1, rfl, hc.2.1, hc.2.2⟩
      · cases h
theorem zeroL_of {e : TypeId} {z : List AV} {i : TypeInfo} {Z : Value} (hz : zeroL P e = some z) (hi : P.info? e = some i) (hZ : i.zero = some Z) : ∀ ρ : Rho, conL ρ σ z = some Z.cells.toList ∧ z.all isCell = true := by
  unfold zeroL at hz
  rw [hi] at hz
  simp only [hZ] at hz
  split at hz
  · rename_i hall
    cases hz
    exact fun ρ => conL_absS hall
  · cases hz
theorem wrap_small {n : Nat} (h : n ≤ mostLen) : IntKind.i64.wrap (n : Int) = n := by
  unfold mostLen at h
  exact wrap64_in (by omega) (by omega)
theorem makeSlice_ok {t : TypeId} {e es : Nat} {x y : Operand} {z : List AV} (ho : o.op = .makeSlice t x y) (hx : okOpd P nt x = true) (hy : okOpd P nt y = true)
    (ht : elemOfSl P t = some e) (hg : growElem P e = some es) (hz : zeroL P e = some z) :
    AllocOk P σ nt o (fun r id => onInt ((cOpd x).run r) (fun _ a => onNat a (fun n => onInt ((cOpd y).run r) (fun _ b => onNat b (fun m => sw (andB (Nat.ble n m) (Nat.ble m mostLen)) (.ok (.slice id 0 n m 0) (.cells (zerosOf z m) e false true)) .no) .no) .no) .no) .no) := by
  intro ρ h w r a id v b C ev
  obtain ⟨k1, n1, hk1, ev⟩ := onInt_inv ev (by simp)
  obtain ⟨n, rfl, ev⟩ := onNat_inv ev (by simp)
  obtain ⟨k2, n2, hk2, ev⟩ := onInt_inv ev (by simp)
  obtain ⟨m, rfl, ev⟩ := onNat_inv ev (by simp)
  obtain ⟨hc, ev⟩ := sw_inv ev (by simp)
  cases ev
  rw [andB_eq, ble_dec, ble_dec, Bool.and_eq_true, decide_eq_true_eq, decide_eq_true_eq] at hc
  have h1 := C.opd hx; rw [hk1] at h1
  have h2 := C.opd hy; rw [hk2] at h2
  obtain ⟨_, hX⟩ := con_int h1
  obtain ⟨_, hY⟩ := con_int h2
  obtain ⟨i, Z, hi, hZ, hZs, his, hpos, hbytes⟩ := growElem_ok hg
  have hu := elem_of ht
  obtain ⟨hzc, hza⟩ := zeroL_of (σ := σ) hz hi hZ ρ
  obtain ⟨zs, hz1, hz2, hz3⟩ := conL_zeros hzc m
  have hzl : Z.cells.toList.length = es := by simpa using hZs
  have hmm : m ≤ 1073741824 := hc.2
  have hprod : i.bytes * m ≤ 4096 * 1073741824 := Nat.mul_le_mul hbytes hmm
  refine ⟨.slice (some ⟨w.heap.size, 0, none⟩) n m, { w with heap := w.heap.push (.cells zs.toArray e) }, .cells zs.toArray e, ⟨w.heap.size, 0, zs.length, none⟩, ?_, rfl, rfl, rfl, rfl, rfl, ?_⟩
  · simp only [execOp, ho]
    refine run_v ?_
    rw [hX, hY]
    unfold Instr.makeSlice
    simp only [Sem.run_bind, run_underlying' hu, Result.andThen_ok, asInt, asIntOf, Sem.run_pure, typeInfo, run_program, hi, wrap_small (Nat.le_trans hc.1 hc.2), wrap_small hc.2]
    have hcond : ((((m : Int) < 0 || (i.bytes : Int) * (m : Int) > 2 ^ 48) || decide ((n : Int) < 0)) || decide ((n : Int) > (m : Int))) = false := by
      have e1 : ¬ ((m : Int) < 0) := by omega
      have e2 : ¬ ((n : Int) < 0) := by omega
      have e3 : ¬ ((n : Int) > (m : Int)) := by omega
      have e4 : ¬ ((i.bytes : Int) * (m : Int) > 2 ^ 48) := by
        rw [← Int.natCast_mul]
        have : ((2 : Int) ^ 48) = 281474976710656 := by decide
        omega
      rw [decide_eq_false e1, decide_eq_false e2, decide_eq_false e3, decide_eq_false e4]; rfl
    rw [if_neg (by rw [hcond]; simp)]
    simp only [Int.toNat_natCast, Sem.run_bind, run_askRoom, Result.andThen_ok, sizeT_run hi]
    have hsz : sizeT P e = es := by simp [sizeT, hi, his]
    rw [hsz]
    have hzero : (zeroValue e).run P w = .ok Z w := by simp [zeroValue, typeInfo, hi, hZ]
    by_cases h0 : m * es = 0
    · rw [if_pos h0]
      have hzs : zs = [] := by
        apply List.eq_nil_of_length_eq_zero
        rw [hz2, hzl, h0]
      have he : (Array.range (m * es)).map (fun j => (#[] : Array Value)[j % (#[] : Array Value).size]!) = zs.toArray := by
        rw [h0, hzs]; simp
      simp only [Sem.run_pure, Result.andThen_ok, he, run_newRow, Sem.run_bind]
    · rw [if_neg h0]
      have he : (Array.range (m * es)).map (fun j => Z.cells[j % Z.cells.size]!) = zs.toArray := by
        have := model_zeros (zs := Z.cells.toList) (n := m) (.inl (by rw [hzl]; omega)) hz2 hz3
        rw [hzl] at this
        simpa using this
      simp only [Sem.run_bind, hzero, Sem.run_pure, Result.andThen_ok, he, run_newRow]
  · intro ρ' hle hid
    refine ⟨⟨zs.toArray, (0, 0), rfl, cellsOk_new (conL_mono hle _ _ hz1) (all_zeros hza m)⟩, ?_⟩
    rw [con_slice_mk hid (.inl rfl), if_pos rfl]
theorem cellsB_eq (s : List Nat) : cellsB s = s.map fun c => AV.int 4 (Int.ofNat c) := by
  induction s with
  | nil => rfl
  | cons c s ih => show AV.int 4 (Int.ofNat c) :: cellsB s = _; rw [ih]; rfl
theorem conL_cellsB {ρ : Rho} : ∀ (s : List Nat), conL ρ σ (cellsB s) = some (s.map fun (c : Nat) => Value.int .u8 (c : Int))
  | [] => rfl
  | c :: s => conL_cons.2 ⟨_, _, con_int_mk (by decide) _, conL_cellsB s, rfl⟩
theorem all_cellsB : ∀ (s : List Nat), (cellsB s).all isCell = true
  | [] => rfl
  | c :: s => by show (isCell (.int 4 (Int.ofNat c)) && (cellsB s).all isCell) = true; rw [all_cellsB s]; rfl
theorem conv_tobytes_ok {s d e : TypeId} {x : Operand} (ho : o.op = .convert s d x) (hx : okOpd P nt x = true) (hs : P.underlying s = some .string) (hd : P.underlying d = some (.slice e)) (he : P.underlying e = some (.int .u8)) :
    AllocOk P σ nt o (fun r id => onStr ((cOpd x).run r) (fun s => .ok (.slice id 0 (lenX s) 0 1) (.cells (cellsB s) e false false)) .no) := by
  intro ρ h w r a id v b C ev
  obtain ⟨t, ht, ev⟩ := onStr_inv ev (by simp)
  cases ev
  have h1 := C.opd hx; rw [ht] at h1
  obtain ⟨hall, hX⟩ := con_str h1
  -- the capacity that is drawn
  generalize hcap : Question.cut (.appendCap t.length 0 e) (w.tape w.drawn (.appendCap t.length 0 e)) = cap
  have hge : t.length ≤ cap := by rw [← hcap]; simp [Question.cut]
  let cs : Array Value := (t.map fun (c : Nat) => Value.int .u8 (c : Int)).toArray ++ Array.replicate (cap - t.length) (.int .u8 0)
  have hcs : cs.size = cap := by simp [cs]; omega
  have hdata : (⟨(t.map UInt8.ofNat).toArray⟩ : ByteArray).data.map (fun b => Value.int .u8 (b.toNat : Int)) = (t.map fun (c : Nat) => Value.int .u8 (c : Int)).toArray := by
    apply Array.ext'
    simp only [Array.toList_map, List.map_map]
    apply List.map_congr_left
    intro c hc
    have : c < 256 := by simpa using List.all_eq_true.1 hall c hc
    simp [Nat.mod_eq_of_lt this]
  refine ⟨.slice (some ⟨w.heap.size, 0, none⟩) t.length cap, { w with heap := w.heap.push (.cells cs e (cs.size, cs.size + 1)), drawn := w.drawn + 1 }, .cells cs e (cs.size, cs.size + 1), ⟨w.heap.size, 0, cs.size, none⟩, ?_, rfl, rfl, rfl, rfl, rfl, ?_⟩
  · simp only [execOp, ho]
    refine run_v ?_
    rw [hX]
    unfold convert
    simp only [Sem.run_bind, run_underlying' hs, run_underlying' hd, Result.andThen_ok, run_underlying' he]
    unfold Conv.stringToBytes
    simp only [Sem.run_bind, run_choose, Question.forced, Bool.false_eq_true, if_false, str_size, Result.andThen_ok, hcap, hdata, run_newRow, markStringish, run_shape, Sem.run_pure]
    have hsh : World.shape? { w with drawn := w.drawn + 1, heap := w.heap.push (.cells ((t.map fun (c : Nat) => Value.int .u8 (c : Int)).toArray ++ Array.replicate (cap - t.length) (.int .u8 0)) e) } w.heap.size = some (e, cs.size) := by
      unfold World.shape?
      simp [cs]
    rw [hsh]
    simp only [Sem.run_bind, run_freeze, Result.andThen_ok, Sem.run_pure]
    congr 1
    unfold World.freeze
    simp only [Nat.one_ne_zero, if_false]
    congr 1
    apply Array.ext_getElem?
    intro k
    rw [Array.getElem?_modify]
    by_cases hk : w.heap.size = k
    · subst hk
      simp [cs]
    · rw [if_neg hk, Array.getElem?_push, Array.getElem?_push, if_neg (Ne.symm hk), if_neg (Ne.symm hk)]
  · intro ρ' hle hid
    have hl := conL_cellsB (ρ := ρ') (σ := σ) t
    have hl1 := conL_length hl
    rw [List.length_map] at hl1
    refine ⟨⟨cs, (cs.size, cs.size + 1), rfl, rfl, ?_, ?_, ?_, by simp, by simp⟩, ?_⟩
    · show 0 + (cellsB t).length ≤ cs.size; omega
    · intro j v hj
      obtain ⟨y, hy, hc⟩ := conL_get hl hj
      refine ⟨List.all_eq_true.1 (all_cellsB t) v (List.mem_of_getElem? hj), y, hc, ?_⟩
      have hjl : j < t.length := by
        rcases Nat.lt_or_ge j t.length with h | h
        · exact h
        · rw [List.getElem?_eq_none (by simpa using h)] at hy; cases hy
      show cs[0 + j]? = some y
      rw [Nat.zero_add]
      have : cs[j]? = (t.map fun (c : Nat) => Value.int .u8 (c : Int))[j]? := by
        simp only [cs]
        rw [Array.getElem?_append_left (by simpa using hjl)]
        simp
      rw [this, hy]
    · intro _ j _ hj hc
      have h1 : cs.size ≤ j := hc.1
      have h2 : j < cs.size := hj
      omega
    · rw [lenX_eq, con_slice_mk hid (.inr (by show 0 + 0 + t.length * 1 ≤ cs.size; omega))]
      simp [hcs]

/-! stores -/
theorem setCell_eq {w : World} {b off : Nat} {c : Array Value} {e : TypeId} {fz : Nat × Nat} (h : w.heap[b]? = some (.cells c e fz)) (v : Value) :
    w.setCell ⟨b, off, none⟩ v = { w with heap := w.heap.setIfInBounds b (.cells (c.setIfInBounds off v) e fz) } := by
  unfold World.setCell
  congr 1
  apply Array.ext_getElem?
  intro k
  rw [Array.getElem?_modify, Array.getElem?_setIfInBounds]
  by_cases hk : b = k
  · subst hk
    have hlt : b < w.heap.size := (Array.getElem?_eq_some_iff.1 h).1
    rw [if_pos rfl, if_pos rfl, if_pos hlt, h]
    rfl
  · rw [if_neg hk, if_neg hk]
theorem storeCells_run {b off : Nat} {e : TypeId} {fz : Nat × Nat} : ∀ (vs : List Value) (i : Nat) (c : Array Value) (w : World), w.heap[b]? = some (.cells c e fz) → off + i + vs.length ≤ c.size →
    (∀ j, off + i ≤ j → j < off + i + vs.length → ¬ (fz.1 ≤ j ∧ j < fz.2)) → (∀ v ∈ vs, v.oneCell' = true) →
    (storeCells ⟨b, off, none⟩ vs i).run P w = .ok () { w with heap := w.heap.setIfInBounds b (.cells (over c (off + i) vs) e fz) }
  | [], i, c, w, h, hfit, hfree, hone => by
    have : w.heap.setIfInBounds b (.cells (over c (off + i) []) e fz) = w.heap := by
      apply Array.ext_getElem?
      intro k
      rw [Array.getElem?_setIfInBounds]
      by_cases hk : b = k
      · subst hk
        have hlt : b < w.heap.size := (Array.getElem?_eq_some_iff.1 h).1
        rw [if_pos rfl, if_pos hlt, h]; rfl
      · rw [if_neg hk]
    rw [this]
    rfl
  | v :: vs, i, c, w, h, hfit, hfree, hone => by
    simp only [List.length_cons] at hfit hfree
    have hlt : b < w.heap.size := (Array.getElem?_eq_some_iff.1 h).1
    have hin : off + i < c.size := by omega
    have hcell : w.cell? ⟨b, off + i, none⟩ = some c[off + i] := by
      unfold World.cell?
      simp only
      rw [h]
      simp [hin]
    have hfz : w.frozen? ⟨b, off + i, none⟩ = false := by
      unfold World.frozen?
      simp only
      rw [h]
      have := hfree (off + i) (Nat.le_refl _) (by omega)
      simp only [Bool.and_eq_false_iff, decide_eq_false_iff_not]
      omega
    have hst : (store ((⟨b, off, none⟩ : Addr).add i) v).run P w = .ok () { w with heap := w.heap.setIfInBounds b (.cells (c.setIfInBounds (off + i) v) e fz) } := by
      rw [addr_add, run_store P w _ v _ (hone v (by simp)), hcell]
      simp only [hfz, Bool.false_eq_true, if_false]
      rw [setCell_eq h]
    unfold storeCells
    simp only [Sem.run_bind, hst, Result.andThen_ok]
    have hnew : ({ w with heap := w.heap.setIfInBounds b (.cells (c.setIfInBounds (off + i) v) e fz) } : World).heap[b]? = some (.cells (c.setIfInBounds (off + i) v) e fz) := by
      show (w.heap.setIfInBounds b _)[b]? = _
      rw [Array.getElem?_setIfInBounds, if_pos rfl, if_pos hlt]
    rw [storeCells_run vs (i + 1) (c.setIfInBounds (off + i) v) _ hnew (by rw [Array.size_setIfInBounds]; omega) (fun j h1 h2 => hfree j (by omega) (by omega)) (fun u hu => hone u (by simp [hu]))]
    congr 2
    rw [Array.setIfInBounds_setIfInBounds]
    rfl
theorem one_of_cell {ρ : Rho} {v : AV} {x : Value} (hc : isCell v = true) (hx : con ρ σ v = some x) : x.oneCell' = true := by
  cases x <;> first | rfl | skip
  · obtain ⟨l, rfl⟩ := con_aggv hx; cases hc
  · cases v <;> first
      | (cases hc; done)
      | (simp [con] at hx; done)
      | (have := con_int hx; simp at this; done)
      | (have := con_str hx; simp at this; done)
      | (obtain ⟨_, _, hp⟩ := con_ptr hx; cases hp)
      | (obtain ⟨_, _, hp, _⟩ := con_slice hx; cases hp)
      | (obtain ⟨_, _, hp⟩ := con_map hx; cases hp)
      | (obtain ⟨_, _, _, _, hp⟩ := con_func hx; cases hp)
      | (obtain ⟨_, _, hp⟩ := con_iface hx; cases hp)
      | (rename_i l
         simp only [con] at hx
         cases hb : ρ l <;> rw [hb] at hx <;> cases hx)
theorem one_all {ρ : Rho} {l : List AV} {xs : List Value} (hc : l.all isCell = true) (hx : conL ρ σ l = some xs) : ∀ x ∈ xs, x.oneCell' = true := by
  intro x hmem
  obtain ⟨i, hi⟩ := List.getElem?_of_mem hmem
  have hlt : i < l.length := by
    rw [← conL_length hx]
    exact (List.getElem?_eq_some_iff.1 hi).1
  obtain ⟨y, hy, hcy⟩ := conL_get hx (List.getElem?_eq_getElem hlt)
  rw [hi] at hy; cases hy
  exact one_of_cell (List.all_eq_true.1 hc _ (List.getElem_mem hlt)) hcy
/-- cells stored into a block -/
theorem stL_ok {α : Type} {ρ : Rho} {h : AH} {w : World} {b q : Nat} {p : Place} {vs : List AV} {xs : List Value} {f : AH → α} {d y : α} (R : Rel P.globals.size ρ σ h w) (hp : ρ b = some p)
    (hv : conL ρ σ vs = some xs) (hc : vs.all isCell = true) (e : stL h b q vs f d = y) (hd : d ≠ y) :
    ∃ h' w', f h' = y ∧ (storeCells ⟨p.blk, p.base + q, none⟩ xs).run P w = .ok () w' ∧ Ext P.globals.size σ ρ h w ρ h' w' := by
  obtain ⟨l, el, ro, wh, hb, e1⟩ := onCells_inv e hd
  cases ro with
  | true => exact absurd e1 hd
  | false =>
    rw [sw_false] at e1
    obtain ⟨l', hl', e2⟩ := onOpt_inv e1 hd
    obtain ⟨hlive, c, fz, hh, H⟩ := live_cells R hp hb
    obtain ⟨hfit, hl2⟩ := putX_some hl'
    have hlen := conL_length hv
    have hsz := H.size
    have hfits := H.fits
    refine ⟨_, { w with heap := w.heap.setIfInBounds p.blk (.cells (over c (p.base + q) xs) el fz) }, e2, ?_, ?_⟩
    · have := storeCells_run (P := P) (off := p.base + q) xs 0 c w hh (by omega) (fun j h1 h2 => H.free rfl j (by omega) (by omega)) (one_all hc hv)
      simpa using this
    · have hlt : p.blk < w.heap.size := (Array.getElem?_eq_some_iff.1 hh).1
      refine Ext.turn R hlive hp _ _ (by simp) ?_ ?_ rfl rfl rfl
      · intro k hk
        show (w.heap.setIfInBounds p.blk _)[k]? = _
        rw [Array.getElem?_setIfInBounds, if_neg (Ne.symm hk)]
      · show BRel ρ σ p (w.heap.setIfInBounds p.blk (.cells (over c (p.base + q) xs) el fz))[p.blk]? (.cells l' el false wh)
        rw [Array.getElem?_setIfInBounds, if_pos rfl, if_pos hlt]
        have hl'len : l'.length = l.length := by rw [hl2]; simp only [List.length_append, List.length_take, List.length_drop]; omega
        refine ⟨over c (p.base + q) xs, fz, rfl, by rw [over_size]; exact hsz, by rw [hl'len]; exact hfits, ?_, H.free, fun hw => by rw [hl'len]; exact H.whole hw, fun hr => by cases hr⟩
        intro j v hj
        rw [over_get _ _ _ _ (by omega)]
        by_cases hin : q ≤ j ∧ j < q + vs.length
        · rw [if_pos (by omega)]
          have hv' : vs[j - q]? = some v := by
            rw [hl2, List.append_assoc, List.getElem?_append_right (by simp; omega), List.getElem?_append_left (by simp only [List.length_take]; omega)] at hj
            have e3 : j - (l.take q).length = j - q := by simp only [List.length_take]; omega
            rw [e3] at hj
            exact hj
          obtain ⟨x, hx, hcx⟩ := conL_get hv hv'
          refine ⟨List.all_eq_true.1 hc v (List.mem_of_getElem? hv'), x, hcx, ?_⟩
          rw [← hx]; congr 1; omega
        · rw [if_neg (by omega)]
          have hv' : l[j]? = some v := by
            rw [hl2] at hj
            rcases Nat.lt_or_ge j q with hlt2 | hge
            · rw [List.append_assoc, List.getElem?_append_left (by simp only [List.length_take]; omega), List.getElem?_take, if_pos hlt2] at hj
              exact hj
            · rw [List.getElem?_append_right (by simp only [List.length_append, List.length_take]; omega), List.getElem?_drop] at hj
              have e3 : q + vs.length + (j - (l.take q ++ vs).length) = j := by simp only [List.length_append, List.length_take]; omega
              rw [e3] at hj
              exact hj
          exact H.cell j v hv'
theorem store_ok {t : TypeId} {x y : Operand} {i : TypeInfo} (ho : o.op = .store t x y) (hx : okOpd P nt x = true) (hy : okOpd P nt y = true) (hi : P.info? t = some i) :
    TurnOk P σ nt o (fun r h => onPtr ((cOpd x).run r) (fun b q => cellsX ((cOpd y).run r) (fun cs => sw (Nat.beq (lenX cs) i.size) (stL h b q cs (fun h' => .ok undefA h') .no) .no) .no) .no) := by
  intro ρ h w r a v h' C ev
  have h1 := C.opd hx
  have h2 := C.opd hy
  obtain ⟨b, q, hb, e1⟩ := onPtr_inv ev (by simp)
  obtain ⟨cs, hcs, e2⟩ := cells_inv e1 (by simp)
  obtain ⟨hlen, e3⟩ := sw_inv e2 (by simp)
  have hlen := Nat.eq_of_beq_eq_true hlen
  rw [lenX_eq] at hlen
  rw [hb] at h1
  obtain ⟨p, hp, hX⟩ := con_ptr h1
  obtain ⟨hcc, hca⟩ := cells_ok h2 hcs
  obtain ⟨h'', w', e4, hrun, E⟩ := stL_ok C.rel hp hcc hca e3 (by simp)
  cases e4
  refine ⟨.skip, undef, w', ρ, ?_, .inr ⟨rfl, rfl⟩, E, rfl⟩
  simp only [execOp, ho]
  refine run_u ?_
  rw [hX]
  have hl2 := conL_length hcc
  rw [Array.length_toList] at hl2
  have hsz : sizeT P t = i.size := by simp [sizeT, hi]
  simp only [Instr.storeAt, Instr.sureAddr, Sem.run_bind, Sem.run_pure, Result.andThen_ok, storeVar, sizeT_run hi, hsz]
  rw [if_neg (by simp; omega)]
  exact hrun
end
end Go.Proofs.YteahdpjeoeeemaaGreatDoor.Ax

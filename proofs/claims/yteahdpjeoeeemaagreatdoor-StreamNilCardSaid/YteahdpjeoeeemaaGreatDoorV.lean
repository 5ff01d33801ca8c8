/- How a memory is shown to hold the listed tables, piece by piece. -/
import Derived.Test.YteahdpjeoeeemaaGreatDoorRows
import Derived.Test.YteahdpjeoeeemaaGreatDoorAx10
import Derived.ProofKit
import Derived.LaidMore
import Derived.OpenShut
namespace Go.Proofs.YteahdpjeoeeemaaGreatDoor
open Go Go.Proofs.YteahdpjeoeeemaaGreatDoor.Ax
set_option maxRecDepth 1000000
set_option linter.unusedVariables false
/-- places as numbers: all different, by the bits of one number -/
def code : MemPlace → Nat
  | .cell b off => b * 4096 + off
  | .map b => b * 4096 + 4095
noncomputable def ndB : List MemPlace → Nat → Bool :=
  @List.rec MemPlace (fun _ => Nat → Bool) (fun _ => true) (fun p _ ih m => @Bool.rec (fun _ => Bool) (forceM (code p) fun x => @Bool.rec (fun _ => Bool) (forceM (Nat.lor m (Nat.shiftLeft 1 x)) ih) false (Nat.beq (Nat.land (Nat.shiftRight m x) 1) 1)) false false)
theorem ndB_ok : ∀ (l : List MemPlace) (m : Nat), ndB l m = true → l.Nodup ∧ ∀ p ∈ l, m.testBit (code p) = false
  | [], _, _ => ⟨List.nodup_nil, fun _ h => by cases h⟩
  | p :: l, m, h => by
    have h' : (forceM (code p) fun x => @Bool.rec (fun _ => Bool) (forceM (Nat.lor m (Nat.shiftLeft 1 x)) (ndB l)) false (Nat.beq (Nat.land (Nat.shiftRight m x) 1) 1)) = true := h
    rw [forceM_eq, bit_iff] at h'
    cases hb : m.testBit (code p) with
    | true => rw [hb] at h'; cases h'
    | false =>
      rw [hb] at h'
      have h2 : forceM (Nat.lor m (Nat.shiftLeft 1 (code p))) (ndB l) = true := h'
      rw [forceM_eq] at h2
      obtain ⟨h3, h4⟩ := ndB_ok l _ h2
      have e : Nat.lor m (Nat.shiftLeft 1 (code p)) = m ||| 1 <<< code p := rfl
      refine ⟨List.nodup_cons.2 ⟨fun hp => ?_, h3⟩, fun q hq => ?_⟩
      · have := h4 p hp
        rw [e] at this
        simp [Nat.testBit_or, Nat.testBit_shiftLeft] at this
      · rcases List.mem_cons.1 hq with rfl | hq
        · exact hb
        · have := h4 q hq
          rw [e] at this
          simp only [Nat.testBit_or, Bool.or_eq_false_iff] at this
          exact this.1

/-- a memory of just these blocks -/
def memW (l : List Obj) : World := { heap := l.toArray, tape := fun _ _ => 0, drawn := 0, os := default, output := #[] }
theorem memory_eq {w : World} {l : List Obj} (h : w.heap = l.toArray) : w.memory = memW l := by
  unfold World.memory memW
  rw [h]
theorem laid_app {P : Program} {w : World} {l2 : List (String × DataW Unit)} {p2 : List MemPlace} (h2 : DataW.LaidVars P w l2 p2) : ∀ {l1 : List (String × DataW Unit)} {p1 : List MemPlace}, DataW.LaidVars P w l1 p1 → DataW.LaidVars P w (l1 ++ l2) (p1 ++ p2)
  | [], p1, h => by
    have e : p1 = [] := h
    subst e
    exact h2
  | (n, d) :: r, p1, h => by
    obtain ⟨g, t, cs, fuel, p, q, a, b, c, e, f, rfl⟩ := h
    exact ⟨g, t, cs, fuel, p, q ++ p2, a, b, c, e, laid_app h2 f, by simp [List.append_assoc]⟩
theorem laid_one {P : Program} {w : World} {n : String} {d : DataW Unit} {ps : List MemPlace} (h : DataW.laidRun P w 8 [n] = some ([(n, d)], ps)) : DataW.LaidVars P w [(n, d)] ps := DataW.LaidVars_of_laidRun h
theorem laid_mem {P : Program} {W : World} : ∀ {l : List (String × DataW Unit)} {ps : List MemPlace}, DataW.LaidVars P W l ps → ∀ x ∈ l, ∃ g t cs fuel p, P.globalNamed x.1 = some g ∧ (P.globals[g]?).map (·.type) = some t ∧ W.var? P x.1 = some cs ∧ DataW.trod (fun _ => ()) P W 0 (fun _ => true) false fuel t cs.toList = some (x.2, p)
  | [], _, _, x, hx => by cases hx
  | (n, d) :: r, _, h, x, hx => by
    obtain ⟨g, t, cs, fuel, p, q, a, b, c, e, f, rfl⟩ := h
    rcases List.mem_cons.1 hx with rfl | hx
    · exact ⟨g, t, cs, fuel, p, a, b, c, e⟩
    · exact laid_mem f x hx
theorem rows_app {P : Program} {w : World} {p q : List MemPlace} (hp : ∀ b off, MemPlace.cell b off ∈ p → (∃ c t, w.heap[b]? = some (.cells c t (0, 0))) ∧ ∀ u v, w.cell? ⟨b, off, none⟩ = some (.iface u v) → Value.okWide P w .any 0 u v)
    (hq : ∀ b off, MemPlace.cell b off ∈ q → (∃ c t, w.heap[b]? = some (.cells c t (0, 0))) ∧ ∀ u v, w.cell? ⟨b, off, none⟩ = some (.iface u v) → Value.okWide P w .any 0 u v) :
    ∀ b off, MemPlace.cell b off ∈ p ++ q → (∃ c t, w.heap[b]? = some (.cells c t (0, 0))) ∧ ∀ u v, w.cell? ⟨b, off, none⟩ = some (.iface u v) → Value.okWide P w .any 0 u v := fun b off h => by
  rcases List.mem_append.1 h with h | h
  · exact hp b off h
  · exact hq b off h
theorem rows_of {P : Program} {w : World} {ps : List MemPlace} (hr : laidRowsB P w ps = true) : ∀ b off, MemPlace.cell b off ∈ ps → (∃ c t, w.heap[b]? = some (.cells c t (0, 0))) ∧ ∀ u v, w.cell? ⟨b, off, none⟩ = some (.iface u v) → Value.okWide P w .any 0 u v := fun b off hp => by
  have := List.all_eq_true.1 hr _ hp
  simp only [Bool.and_eq_true] at this
  obtain ⟨h1, h2⟩ := this
  refine ⟨?_, fun u v hc => ?_⟩
  · split at h1
    · rename_i c t hh
      exact ⟨c, t, hh⟩
    · cases h1
  · rw [hc] at h2
    exact Value.okWide_of_okWideB h2
theorem mapM_of {α β : Type} {f : α → Option β} {g : α → β} : ∀ l : List α, (∀ a ∈ l, f a = some (g a)) → l.mapM f = some (l.map g)
  | [], _ => rfl
  | a :: l, h => by
    rw [List.mapM_cons, h a (List.mem_cons_self ..), mapM_of l fun b hb => h b (List.mem_cons_of_mem _ hb)]
    rfl
def enc5 (r : Nat × Nat × Int × Int × Int) : List Value := [Value.int .u32 r.1, .int .u32 r.2.1, .int .i32 r.2.2.1, .int .i32 r.2.2.2.1, .int .i32 r.2.2.2.2]
def row5 (r : Nat × Nat × Int × Int × Int) : Bool := (Lit.int .u32 r.1).wf && (Lit.int .u32 r.2.1).wf && (Lit.int .i32 r.2.2.1).wf && (Lit.int .i32 r.2.2.2.1).wf && (Lit.int .i32 r.2.2.2.2).wf
theorem flat5 : ∀ (rows : List (Nat × Nat × Int × Int × Int)) (i j : Nat) (r : Nat × Nat × Int × Int × Int), j < 5 → rows[i]? = some r → (rows.flatMap enc5)[i * 5 + j]? = (enc5 r)[j]?
  | [], i, j, r, _, h => by simp at h
  | x :: l, 0, j, r, hj, h => by
    simp only [List.getElem?_cons_zero, Option.some.injEq] at h
    subst h
    rw [List.flatMap_cons, Nat.zero_mul, Nat.zero_add, List.getElem?_append_left (by simpa [enc5] using hj)]
  | x :: l, i + 1, j, r, hj, h => by
    rw [List.getElem?_cons_succ] at h
    rw [List.flatMap_cons, List.getElem?_append_right (by simp [enc5]; omega)]
    have e : (i + 1) * 5 + j - (enc5 x).length = i * 5 + j := by simp [enc5]; omega
    rw [e]
    exact flat5 l i j r hj h
theorem u668 : Tryz.prog.underlying 668 = some (.slice 680) := by kernel_rfl
theorem c680 : Tryz.prog.cellsOf 680 = 5 := by kernel_rfl
noncomputable def fs680 : Array Field := match Tryz.prog.underlying 680 with
  | some (.struct fs) => fs
  | _ => #[]
theorem u680 : Tryz.prog.underlying 680 = some (.struct fs680) := by kernel_rfl
theorem f680 : fs680.toList.map (fun f => (f.type, f.offset)) = [(529, 0), (529, 1), (678, 2)] := by kernel_rfl
theorem rows_wf : Go.Pinned.caseRows.all row5 = true := by decide +kernel
theorem case_one {w : World} (r : Nat × Nat × Int × Int × Int) (h : row5 r = true) : DataW.trod (fun _ => ()) Tryz.prog w 0 (fun _ => true) false 7 680 (enc5 r) = some (Go.Pinned.caseRange r, []) := by
  simp only [row5, Bool.and_eq_true] at h
  obtain ⟨⟨⟨⟨h1, h2⟩, h3⟩, h4⟩, h5⟩ := h
  have i529 (m : Nat) (n : Int) (hn : (Lit.int .u32 n).wf = true) : DataW.trod (fun _ => ()) Tryz.prog w 0 (fun _ => true) false (m + 1) 529 [.int .u32 n] = some (.lit (.int .u32 n), []) := by
    have u : Tryz.prog.underlying 529 = some (.int .u32) := by kernel_rfl
    simp [DataW.trod, u, hn]
  have i21 (m : Nat) (n : Int) (hn : (Lit.int .i32 n).wf = true) : DataW.trod (fun _ => ()) Tryz.prog w 0 (fun _ => true) false (m + 1) 21 [.int .i32 n] = some (.lit (.int .i32 n), []) := by
    have u : Tryz.prog.underlying 21 = some (.int .i32) := by kernel_rfl
    simp [DataW.trod, u, hn]
  have a678 (m : Nat) (a b c : Int) (ha : (Lit.int .i32 a).wf = true) (hb : (Lit.int .i32 b).wf = true) (hc : (Lit.int .i32 c).wf = true) :
      DataW.trod (fun _ => ()) Tryz.prog w 0 (fun _ => true) false (m + 2) 678 [.int .i32 a, .int .i32 b, .int .i32 c] = some (.agg [.lit (.int .i32 a), .lit (.int .i32 b), .lit (.int .i32 c)], []) := by
    have u : Tryz.prog.underlying 678 = some (.array 3 21) := by kernel_rfl
    have c1 : Tryz.prog.cellsOf 678 = 3 := by kernel_rfl
    have c2 : Tryz.prog.cellsOf 21 = 1 := by kernel_rfl
    have e : List.range 3 = [0, 1, 2] := rfl
    unfold DataW.trod
    simp only [u, c1, c2, e]
    simp [i21 m _ ha, i21 m _ hb, i21 m _ hc]
  have u := u680
  have f0 := f680
  have c1 : Tryz.prog.cellsOf 529 = 1 := by kernel_rfl
  have c2 : Tryz.prog.cellsOf 678 = 3 := by kernel_rfl
  have key : ∀ l : List Field, l.map (fun f => (f.type, f.offset)) = [(529, 0), (529, 1), (678, 2)] → (l.mapM fun f => DataW.trod (fun _ => ()) Tryz.prog w 0 (fun _ => true) false 6 f.type (((enc5 r).drop f.offset).take (Tryz.prog.cellsOf f.type))) =
      some [(.lit (.int .u32 r.1), []), (.lit (.int .u32 r.2.1), []), (.agg [.lit (.int .i32 r.2.2.1), .lit (.int .i32 r.2.2.2.1), .lit (.int .i32 r.2.2.2.2)], [])] := by
    intro l hl
    obtain ⟨a, b, c, rfl⟩ : ∃ a b c, l = [a, b, c] := by
      have hn := congrArg List.length hl
      rcases l with _ | ⟨a, _ | ⟨b, _ | ⟨c, _ | ⟨x, l⟩⟩⟩⟩
      · simp at hn
      · simp at hn
      · simp at hn
      · exact ⟨a, b, c, rfl⟩
      · simp at hn
    · simp only [List.map_cons, List.map_nil, List.cons.injEq, Prod.mk.injEq, and_true] at hl
      obtain ⟨⟨ha, ha'⟩, ⟨hb, hb'⟩, hc, hc'⟩ := hl
      simp only [List.mapM_cons, List.mapM_nil, ha, ha', hb, hb', hc, hc', c1, c2, enc5, List.drop_zero, List.drop_succ_cons, List.take_succ_cons, List.take_zero, i529 5 _ h1, i529 5 _ h2, a678 4 _ _ _ h3 h4 h5]
      rfl
  unfold DataW.trod
  simp only [u, c680]
  have hl : (enc5 r).length = 5 := rfl
  have k := key fs680.toList f0
  unfold enc5 at k hl ⊢
  simp only [hl, if_true, k]
  rfl
theorem case_trod {w : World} {cells : Array Value} (hcells : cells = (Go.Pinned.caseRows.flatMap enc5).toArray) (hh : w.heap[21]? = some (.cells cells 680 (0, 0))) :
    DataW.trod (fun _ => ()) Tryz.prog w 0 (fun _ => true) false 8 668 [.slice (some ⟨21, 0, none⟩) Go.Pinned.caseRows.length Go.Pinned.caseRows.length] = some (Go.Pinned.caseRanges, MemPlace.row ⟨21, 0, none⟩ (Go.Pinned.caseRows.length * 5)) := by
  have el (i : Nat) (hi : i < Go.Pinned.caseRows.length) : (w.cells? 0 ((⟨21, 0, none⟩ : Addr).add (i * 5)) 5).bind (DataW.trod (fun _ => ()) Tryz.prog w 0 (fun _ => true) false 7 680) = some ((Go.Pinned.caseRange (Go.Pinned.caseRows.getD i default), []) : DataW Unit × List MemPlace) := by
    have hr : Go.Pinned.caseRows[i]? = some (Go.Pinned.caseRows.getD i default) := by simp [List.getD, hi]
    have hc : w.cells? 0 ((⟨21, 0, none⟩ : Addr).add (i * 5)) 5 = some (enc5 (Go.Pinned.caseRows.getD i default)) := by
      have ea : (⟨21, 0, none⟩ : Addr).add (i * 5) = ⟨21, 0 + i * 5, none⟩ := by
        unfold Addr.add
        split
        · rename_i h
          rw [h]
        · rfl
      rw [ea]
      refine ChangeShapes.cells?_of (b := 21) (off := 0 + i * 5) (n := 5) (cs := enc5 (Go.Pinned.caseRows.getD i default)) (Nat.zero_le _) rfl fun j hj => ?_
      unfold World.cell?
      rw [hh]
      subst hcells
      show (Go.Pinned.caseRows.flatMap enc5).toArray[0 + i * 5 + j]? = _
      rw [Nat.zero_add, List.getElem?_toArray]
      exact flat5 _ i j _ hj hr
    rw [hc]
    exact case_one _ (List.all_eq_true.1 rows_wf _ (List.mem_of_getElem? hr))
  have hm := mapM_of (List.range Go.Pinned.caseRows.length) (fun i hi => el i (List.mem_range.1 hi))
  have hlen : Go.Pinned.caseRows.length ≤ maxLen := by decide +kernel
  unfold DataW.trod
  simp only [u668, c680]
  rw [if_pos ⟨Nat.zero_le _, Nat.le_refl _, hlen⟩, hm]
  simp only [Option.bind_some, if_true, Nat.sub_self, List.range_zero, List.mapM_nil, Option.pure_def, Option.map_some]
  have e1 : ((List.range Go.Pinned.caseRows.length).map fun i => ((Go.Pinned.caseRange (Go.Pinned.caseRows.getD i default), []) : DataW Unit × List MemPlace)).map (·.1) = Go.Pinned.caseRows.map Go.Pinned.caseRange := by
    apply List.ext_getElem?
    intro i
    by_cases hi : i < Go.Pinned.caseRows.length
    · simp [hi, List.getD]
    · simp [hi]
  have e2 : ∀ (l : List Nat), (l.map fun i => ((Go.Pinned.caseRange (Go.Pinned.caseRows.getD i default), []) : DataW Unit × List MemPlace)).flatMap (·.2) = [] := by
    intro l
    induction l with
    | nil => rfl
    | cons a l ih => rw [List.map_cons, List.flatMap_cons, ih]; rfl
  rw [e1, List.append_nil, e2]
  simp [Go.Pinned.caseRanges]
theorem case_rows {w : World} {cells : Array Value} (hcells : cells = (Go.Pinned.caseRows.flatMap enc5).toArray) (hh : w.heap[21]? = some (.cells cells 680 (0, 0))) (n : Nat) :
    ∀ b off, MemPlace.cell b off ∈ MemPlace.row ⟨21, 0, none⟩ n → (∃ c t, w.heap[b]? = some (.cells c t (0, 0))) ∧ ∀ u v, w.cell? ⟨b, off, none⟩ = some (.iface u v) → Value.okWide Tryz.prog w .any 0 u v := by
  intro b off h
  simp only [MemPlace.row, List.mem_map, List.mem_range, MemPlace.cell.injEq] at h
  obtain ⟨i, _, rfl, rfl⟩ := h
  refine ⟨⟨_, _, hh⟩, fun u v hc => ?_⟩
  unfold World.cell? at hc
  rw [hh] at hc
  subst hcells
  have h2 : (Go.Pinned.caseRows.flatMap enc5)[0 + i]? = some (.iface u v) := by simpa using hc
  have h3 := List.mem_of_getElem? h2
  obtain ⟨r, _, hr⟩ := List.mem_flatMap.1 h3
  simp [enc5] at hr
end Go.Proofs.YteahdpjeoeeemaaGreatDoor

/- A part of an executor of the model over an abstract memory, with the proof that what it says is what the model does: Operations on values: what the executor says is what the model does. Operators: what the executor says is what the model does. Operations that neither read nor write memory: what the executor says is what the model does. More operations on values: slices, aggregates, lengths, conversions. The rest of the operations on values: operators under their guard, lengths, conversions, aggregates that are built, functions without a body. -/
import Derived.Test.YteahdpjeoeeemaaGreatDoorAx1
import Derived.Laws.StructEq
import Derived.KernelRfl
namespace Go.Proofs.YteahdpjeoeeemaaGreatDoor.Ax
set_option linter.unusedVariables false
set_option linter.unusedSimpArgs false
set_option linter.unnecessarySimpa false

structure RegOk (ρ : Rho) (σ : Nat → ByteArray) (nt : Nat) (r : Rg) (a : Act) : Prop where
  small : nt ≤ 512
  size : a.tmps.size = nt
  reg : ∀ t, t < nt → con ρ σ (Hp.get 3 t r.t) = some (a.tmps.getD t undef)

def Gl (NG : Nat) (ρ : Rho) : Prop := ∀ g, g < NG → ∃ p, ρ g = some p ∧ p.blk = g ∧ p.base = 0

section
variable {P : Program} {ρ : Rho} {σ : Nat → ByteArray} {nt : Nat} {r : Rg} {a : Act} {w : World}

theorem all_bytes (s : ByteArray) : (s.data.toList.map UInt8.toNat).all (· < 256) = true := by
  rw [List.all_eq_true]
  intro x hx
  obtain ⟨b, _, rfl⟩ := List.mem_map.1 hx
  simpa using UInt8.toNat_lt b
theorem bytes_back (s : ByteArray) : (⟨((s.data.toList.map UInt8.toNat).map UInt8.ofNat).toArray⟩ : ByteArray) = s := by
  have h : (s.data.toList.map UInt8.toNat).map UInt8.ofNat = s.data.toList := by
    rw [List.map_map]
    conv => rhs; rw [← List.map_id s.data.toList]
    apply List.map_congr_left
    intro b _
    simp
  rw [h]
theorem con_absS {v : Value} (h : okS v = true) : con ρ σ (absS v) = some v ∧ isCell (absS v) = true := by
  match v, h with
  | .bool b, _ => exact ⟨rfl, rfl⟩
  | .int k n, _ => exact ⟨by simp only [absS, con, kindOf_kcode]; rw [if_pos (by cases k <;> decide)], rfl⟩
  | .string s, _ => exact ⟨by simp only [absS, con]; rw [if_pos (all_bytes s), bytes_back], rfl⟩
  | .pointer none, _ => exact ⟨rfl, rfl⟩
  | .slice none 0 0, _ => exact ⟨rfl, rfl⟩
  | .map none, _ => exact ⟨rfl, rfl⟩
  | .nilFunc, _ => exact ⟨rfl, rfl⟩
  | .nilIface, _ => exact ⟨rfl, rfl⟩
theorem conL_absS {l : List Value} (h : l.all okS = true) : conL ρ σ (l.map absS) = some l ∧ (l.map absS).all isCell = true := by
  induction l with
  | nil => exact ⟨rfl, rfl⟩
  | cons v l ih =>
    simp only [List.all_cons, Bool.and_eq_true] at h
    obtain ⟨h1, h2⟩ := ih h.2
    obtain ⟨h3, h4⟩ := con_absS (ρ := ρ) (σ := σ) h.1
    exact ⟨conL_cons.2 ⟨v, l, h3, h1, rfl⟩, by simp only [List.map_cons, List.all_cons, h4, h2, Bool.and_self]⟩
theorem con_absV {v : Value} (h : okV v = true) : con ρ σ (absV v) = some v := by
  cases v
  case agg cs =>
    obtain ⟨h1, h2⟩ := conL_absS (ρ := ρ) (σ := σ) (l := cs.toList) h
    simp only [absV, con, h1, h2, if_true]
  all_goals (simp only [okV, absV] at h ⊢; exact (con_absS h).1)
theorem cOpd_tmp (t : Nat) (r : Rg) : (cOpd (.tmp t)).run r = Hp.get 3 t r.t := by
  show (Hp.getK 3 t).run r.t = _
  rw [Hp.getK_run]
theorem opd_ok (hg : Gl P.globals.size ρ) (hr : RegOk ρ σ nt r a) {x : Operand} (h : okOpd P nt x = true) : con ρ σ ((cOpd x).run r) = some (a.eval x) := by
  cases x with
  | tmp t =>
    rw [cOpd_tmp]
    have ht : t < nt := by simpa [okOpd, blt_dec] using h
    exact hr.reg t ht
  | const v => exact con_absV h
  | global g =>
    have hlt : g < P.globals.size := by simpa [okOpd, blt_dec] using h
    obtain ⟨p, hp, h1, h2⟩ := hg g hlt
    show con ρ σ (.ptr g 0) = some (.pointer (some ⟨g, 0, none⟩))
    simp only [con, hp, h1, h2]
  | func f => rfl
theorem opds_ok (hg : Gl P.globals.size ρ) (hr : RegOk ρ σ nt r a) : ∀ {l : List Operand}, l.all (okOpd P nt) = true → conL ρ σ ((cOpds l).run r) = some (l.map a.eval)
  | [], _ => rfl
  | x :: l, h => by
    simp only [List.all_cons, Bool.and_eq_true] at h
    exact conL_cons.2 ⟨_, _, opd_ok hg hr h.1, opds_ok hg hr h.2, rfl⟩
theorem opds_len : ∀ (l : List Operand) (r : Rg), ((cOpds l).run r).length = l.length
  | [], _ => rfl
  | x :: l, r => by show ((cOpds l).run r).length + 1 = _; rw [opds_len l r]; rfl

/-! inversions of con -/
theorem con_int {k : Nat} {n : Int} {X : Value} (h : con ρ σ (.int k n) = some X) : k < 8 ∧ X = .int (kindOf k) n := by
  simp only [con] at h
  split at h
  · exact ⟨by assumption, by simpa using h.symm⟩
  · cases h
theorem con_int_mk {k : Nat} (hk : k < 8) (n : Int) : con ρ σ (.int k n) = some (.int (kindOf k) n) := by simp only [con, if_pos hk]
theorem con_str {s : List Nat} {X : Value} (h : con ρ σ (.str s) = some X) : s.all (· < 256) = true ∧ X = .string ⟨(s.map UInt8.ofNat).toArray⟩ := by
  simp only [con] at h
  split at h
  · exact ⟨by assumption, by simpa using h.symm⟩
  · cases h
theorem con_str_mk {s : List Nat} (h : s.all (· < 256) = true) : con ρ σ (.str s) = some (.string ⟨(s.map UInt8.ofNat).toArray⟩) := by simp only [con, if_pos h]
theorem con_ptr {b o : Nat} {X : Value} (h : con ρ σ (.ptr b o) = some X) : ∃ p, ρ b = some p ∧ X = .pointer (some ⟨p.blk, p.base + o, none⟩) := by
  simp only [con] at h
  cases hb : ρ b with
  | none => rw [hb] at h; cases h
  | some p => rw [hb] at h; exact ⟨p, rfl, by simpa using h.symm⟩
theorem con_ptr_mk {b o : Nat} {p : Place} (h : ρ b = some p) : con ρ σ (.ptr b o) = some (.pointer (some ⟨p.blk, p.base + o, none⟩)) := by simp only [con, h]
theorem con_slice {b o len cap es : Nat} {X : Value} (h : con ρ σ (.slice b o len cap es) = some X) :
    ∃ p, ρ b = some p ∧ X = .slice (some ⟨p.blk, p.base + o, none⟩) len (if es = 0 then cap else (p.size - (p.base + o)) / es) ∧ (es = 0 ∨ p.base + o + len * es ≤ p.size) := by
  simp only [con] at h
  cases hb : ρ b with
  | none => rw [hb] at h; cases h
  | some p =>
    rw [hb] at h
    simp only at h
    split at h
    · exact ⟨p, rfl, by simpa using h.symm, by assumption⟩
    · cases h
theorem con_slice_mk {b o len cap es : Nat} {p : Place} (h : ρ b = some p) (hf : es = 0 ∨ p.base + o + len * es ≤ p.size) : con ρ σ (.slice b o len cap es) = some (.slice (some ⟨p.blk, p.base + o, none⟩) len (if es = 0 then cap else (p.size - (p.base + o)) / es)) := by
  simp only [con, h, if_pos hf]
theorem con_map {b : Nat} {X : Value} (h : con ρ σ (.map b) = some X) : ∃ p, ρ b = some p ∧ X = .map (some p.blk) := by
  simp only [con] at h
  cases hb : ρ b with
  | none => rw [hb] at h; cases h
  | some p => rw [hb] at h; exact ⟨p, rfl, by simpa using h.symm⟩
theorem con_func {f : Nat} {l m : List AV} {X : Value} (h : con ρ σ (.func f l m) = some X) : ∃ x y, conL ρ σ l = some x ∧ conL ρ σ m = some y ∧ X = .func (.func f) x.toArray y.toArray := by
  simp only [con] at h
  cases h1 : conL ρ σ l with
  | none => rw [h1] at h; simp at h
  | some x => cases h2 : conL ρ σ m with
    | none => rw [h1, h2] at h; simp at h
    | some y => rw [h1, h2] at h; exact ⟨x, y, rfl, rfl, by simpa using h.symm⟩
theorem con_iface {t : Nat} {v : AV} {X : Value} (h : con ρ σ (.iface t v) = some X) : ∃ x, con ρ σ v = some x ∧ X = .iface t x := by
  simp only [con] at h
  cases h1 : con ρ σ v with
  | none => rw [h1] at h; simp at h
  | some x => rw [h1] at h; exact ⟨x, rfl, by simpa using h.symm⟩
theorem con_agg {l : List AV} {X : Value} (h : con ρ σ (.agg l) = some X) : ∃ x, conL ρ σ l = some x ∧ l.all isCell = true ∧ X = .agg x.toArray := by
  simp only [con] at h
  cases h1 : conL ρ σ l with
  | none => rw [h1] at h; simp at h
  | some x =>
    rw [h1] at h
    simp only at h
    split at h
    · exact ⟨x, rfl, by assumption, by simpa using h.symm⟩
    · cases h
theorem con_agg_mk {l : List AV} {x : List Value} (h : conL ρ σ l = some x) (hc : l.all isCell = true) : con ρ σ (.agg l) = some (.agg x.toArray) := by simp only [con, h, hc, if_true]
theorem con_tup {l : List AV} {X : Value} (h : con ρ σ (.tup l) = some X) : ∃ x, conL ρ σ l = some x ∧ X = .tuple x.toArray := by
  simp only [con] at h
  cases h1 : conL ρ σ l with
  | none => rw [h1] at h; simp at h
  | some x => rw [h1] at h; exact ⟨x, rfl, by simpa using h.symm⟩
theorem con_tup_mk {l : List AV} {x : List Value} (h : conL ρ σ l = some x) : con ρ σ (.tup l) = some (.tuple x.toArray) := by simp only [con, h]
theorem con_bool {b : Bool} {X : Value} (h : con ρ σ (.bool b) = some X) : X = .bool b := by simpa [con] using h.symm

theorem int2_ok {x y : AV} {f : Nat → Int → Int → R1} {g : List Nat → List Nat → R1} {v : AV} {X Y : Value} (h : int2 x y f g = .ok v) (hx : con ρ σ x = some X) (hy : con ρ σ y = some Y) :
    (∃ k a b, k < 8 ∧ X = .int (kindOf k) a ∧ Y = .int (kindOf k) b ∧ f k a b = .ok v) ∨
    (∃ s t, s.all (· < 256) = true ∧ t.all (· < 256) = true ∧ X = .string ⟨(s.map UInt8.ofNat).toArray⟩ ∧ Y = .string ⟨(t.map UInt8.ofNat).toArray⟩ ∧ g s t = .ok v) := by
  rcases onNum_inv h (by simp) with ⟨k, a, rfl, q1⟩ | ⟨s, rfl, q1⟩
  · obtain ⟨k', b, rfl, q2⟩ := onInt_inv q1 (by simp)
    obtain ⟨hk, q3⟩ := sw_inv q2 (by simp)
    have hk := Nat.eq_of_beq_eq_true hk
    subst hk
    obtain ⟨h1, rfl⟩ := con_int hx
    obtain ⟨_, rfl⟩ := con_int hy
    exact .inl ⟨_, a, b, h1, rfl, rfl, q3⟩
  · obtain ⟨t, rfl, q2⟩ := onStr_inv q1 (by simp)
    obtain ⟨h1, rfl⟩ := con_str hx
    obtain ⟨h2, rfl⟩ := con_str hy
    exact .inr ⟨s, t, h1, h2, rfl, rfl, q2⟩
end

/-! strings -/
theorem str_data (s : List Nat) : (⟨(s.map UInt8.ofNat).toArray⟩ : ByteArray).data.toList = s.map UInt8.ofNat := by simp
theorem str_size (s : List Nat) : (⟨(s.map UInt8.ofNat).toArray⟩ : ByteArray).size = s.length := by
  show (s.map UInt8.ofNat).toArray.size = _
  rw [List.size_toArray, List.length_map]
theorem byteArray_toList (b : ByteArray) : b.toList = b.data.toList := by
  have hsz : b.data.toList.length = b.size := Array.length_toList
  have key : ∀ (n i : Nat) (r : List UInt8), b.size - i = n → ByteArray.toList.loop b i r = r.reverse ++ b.data.toList.drop i := by
    intro n
    induction n with
    | zero =>
      intro i r h
      rw [ByteArray.toList.loop, if_neg (by omega), List.drop_eq_nil_of_le (by omega), List.append_nil]
    | succ n ih =>
      intro i r h
      have hi : i < b.size := by omega
      have hi' : i < b.data.toList.length := by omega
      rw [ByteArray.toList.loop, if_pos hi, ih (i + 1) _ (by omega), List.drop_eq_getElem_cons hi']
      have hg : b.get! i = b.data.toList[i] := by
        have h2 : i < b.data.size := hi
        show b.data[i]! = _
        rw [getElem!_pos b.data i h2]; rfl
      rw [hg, List.reverse_cons, List.append_assoc, List.singleton_append]
  exact key _ 0 [] rfl
theorem ofNat_inj {x y : Nat} (hx : x < 256) (hy : y < 256) (h : UInt8.ofNat x = UInt8.ofNat y) : x = y := by
  have := congrArg UInt8.toNat h
  simpa [UInt8.toNat_ofNat', Nat.mod_eq_of_lt hx, Nat.mod_eq_of_lt hy] using this
theorem map_ofNat_inj : ∀ {s t : List Nat}, s.all (· < 256) = true → t.all (· < 256) = true → s.map UInt8.ofNat = t.map UInt8.ofNat → s = t
  | [], [], _, _, _ => rfl
  | [], _ :: _, _, _, h => by simp at h
  | _ :: _, [], _, _, h => by simp at h
  | x :: s, y :: t, hs, ht, h => by
    simp only [List.all_cons, Bool.and_eq_true, decide_eq_true_eq] at hs ht
    simp only [List.map_cons, List.cons.injEq] at h
    rw [ofNat_inj hs.1 ht.1 h.1, map_ofNat_inj hs.2 ht.2 h.2]
theorem str_beq {s t : List Nat} (hs : s.all (· < 256) = true) (ht : t.all (· < 256) = true) :
    ((⟨(s.map UInt8.ofNat).toArray⟩ : ByteArray).toList == (⟨(t.map UInt8.ofNat).toArray⟩ : ByteArray).toList) = eqX s t := by
  rw [byteArray_toList, byteArray_toList, str_data, str_data, eqX_iff, Bool.eq_iff_iff]
  simp only [beq_iff_eq, decide_eq_true_eq]
  exact ⟨map_ofNat_inj hs ht, fun h => by rw [h]⟩
theorem bytesLess_eq : ∀ {s t : List Nat}, s.all (· < 256) = true → t.all (· < 256) = true → Op.bytesLess (s.map UInt8.ofNat) (t.map UInt8.ofNat) = lexLt s t
  | [], [], _, _ => rfl
  | _ :: _, [], _, _ => rfl
  | [], _ :: _, _, _ => rfl
  | x :: s, y :: t, hs, ht => by
    simp only [List.all_cons, Bool.and_eq_true, decide_eq_true_eq] at hs ht
    simp only [List.map_cons, Op.bytesLess, lexLt]
    rw [bytesLess_eq hs.2 ht.2]
    have h1 : decide (UInt8.ofNat x < UInt8.ofNat y) = decide (x < y) := by
      rw [decide_eq_decide, UInt8.lt_iff_toNat_lt, UInt8.toNat_ofNat', UInt8.toNat_ofNat', Nat.mod_eq_of_lt hs.1, Nat.mod_eq_of_lt ht.1]
    have h2 : (UInt8.ofNat x == UInt8.ofNat y) = decide (x = y) := by
      rw [Bool.eq_iff_iff]
      simp only [beq_iff_eq, decide_eq_true_eq]
      exact ⟨ofNat_inj hs.1 ht.1, fun h => by rw [h]⟩
    rw [h1, h2]
theorem str_less {s t : List Nat} (hs : s.all (· < 256) = true) (ht : t.all (· < 256) = true) :
    Op.bytesLess (⟨(s.map UInt8.ofNat).toArray⟩ : ByteArray).toList (⟨(t.map UInt8.ofNat).toArray⟩ : ByteArray).toList = ltX s t := by
  rw [byteArray_toList, byteArray_toList, str_data, str_data, ltX_eq, bytesLess_eq hs ht]
theorem str_append (s t : List Nat) : (⟨(s.map UInt8.ofNat).toArray⟩ : ByteArray) ++ ⟨(t.map UInt8.ofNat).toArray⟩ = ⟨((s ++ t).map UInt8.ofNat).toArray⟩ := by
  apply ByteArray.ext
  simp [ByteArray.data_append]
end Go.Proofs.YteahdpjeoeeemaaGreatDoor.Ax

namespace Go.Proofs.YteahdpjeoeeemaaGreatDoor.Ax
set_option linter.unusedVariables false
set_option linter.unusedSimpArgs false
set_option linter.unnecessarySimpa false

section
variable {P : Program} {ρ : Rho} {σ : Nat → ByteArray} {w : World} {t : TypeId} {x y v : AV} {X Y : Value}

/-- an operator on two values, as the executor has it -/
def BinOk (P : Program) (op : BinOp) (t : TypeId) (f : AV → AV → R1) : Prop :=
  ∀ (ρ : Rho) (σ : Nat → ByteArray) (w : World) (x y v : AV) (X Y : Value), f x y = .ok v → con ρ σ x = some X → con ρ σ y = some Y →
    ∃ Z, (binOp op t X Y).run P w = .ok Z w ∧ con ρ σ v = some Z

theorem sum_small {s u : List Nat} (h : Nat.ble (Nat.add (lenX s) (lenX u)) maxStr = true) : ¬ ((((⟨(s.map UInt8.ofNat).toArray⟩ : ByteArray).size + (⟨(u.map UInt8.ofNat).toArray⟩ : ByteArray).size : Nat) : Int) > IntKind.i64.max) := by
  have h1 := Nat.le_of_ble_eq_true h
  rw [lenX_eq, lenX_eq] at h1
  rw [str_size, str_size]
  have e : IntKind.i64.max = 9223372036854775807 := by decide
  rw [e]
  unfold maxStr at h1
  have h2 : s.length + u.length ≤ 4611686018427387904 := h1
  omega
theorem add_ok : BinOk P .add t addV := by
  intro ρ σ w x y v X Y h hx hy
  rcases int2_ok h hx hy with ⟨k, a, b, hk, rfl, rfl, q⟩ | ⟨s, u, hs, hu, rfl, rfl, q⟩
  · cases q
    exact ⟨.int (kindOf k) ((kindOf k).wrap (a + b)), by simp [binOp, Op.intArith], by rw [con_int_mk hk, wrapI_eq, addI_eq]⟩
  · obtain ⟨q1, q2⟩ := sw_inv q (by simp)
    cases q2
    refine ⟨.string ⟨((s ++ u).map UInt8.ofNat).toArray⟩, ?_, ?_⟩
    · simp only [binOp, Op.stringOp]
      rw [if_neg (sum_small q1), str_append]; rfl
    · rw [catX_eq]
      exact con_str_mk (by rw [List.all_append, hs, hu]; rfl)
theorem sub_ok : BinOk P .sub t subV := by
  intro ρ σ w x y v X Y h hx hy
  rcases int2_ok h hx hy with ⟨k, a, b, hk, rfl, rfl, q⟩ | ⟨s, u, hs, hu, rfl, rfl, q⟩
  · cases q
    exact ⟨.int (kindOf k) ((kindOf k).wrap (a - b)), by simp [binOp, Op.intArith], by rw [con_int_mk hk, wrapI_eq, subI_eq]⟩
  · cases q
theorem mul_ok : BinOk P .mul t mulV := by
  intro ρ σ w x y v X Y h hx hy
  rcases int2_ok h hx hy with ⟨k, a, b, hk, rfl, rfl, q⟩ | ⟨s, u, hs, hu, rfl, rfl, q⟩
  · cases q
    exact ⟨.int (kindOf k) ((kindOf k).wrap (a * b)), by simp [binOp, Op.intArith], by rw [con_int_mk hk, wrapI_eq, mulI_eq]⟩
  · cases q
theorem ofNat_zero_eq : Int.ofNat 0 = 0 := rfl
theorem quo_ok : BinOk P .quo t quoV := by
  intro ρ σ w x y v X Y h hx hy
  rcases int2_ok h hx hy with ⟨k, a, b, hk, rfl, rfl, q⟩ | ⟨s, u, hs, hu, rfl, rfl, q⟩
  · have hb : b ≠ 0 := by
      intro e; subst e
      rw [eqI_eq] at q; simp at q
    have hf : eqI b (Int.ofNat 0) = false := by rw [eqI_eq]; simpa using hb
    rw [hf] at q
    cases q
    exact ⟨.int (kindOf k) ((kindOf k).wrap (a.tdiv b)), by simp [binOp, Op.intDiv, hb], con_int_mk hk _⟩
  · cases q
theorem rem_ok : BinOk P .rem t remV := by
  intro ρ σ w x y v X Y h hx hy
  rcases int2_ok h hx hy with ⟨k, a, b, hk, rfl, rfl, q⟩ | ⟨s, u, hs, hu, rfl, rfl, q⟩
  · have hb : b ≠ 0 := by
      intro e; subst e
      rw [eqI_eq] at q; simp at q
    have hf : eqI b (Int.ofNat 0) = false := by rw [eqI_eq]; simpa using hb
    rw [hf] at q
    cases q
    exact ⟨.int (kindOf k) (a.tmod b), by simp [binOp, Op.intDiv, hb], con_int_mk hk _⟩
  · cases q
theorem and_ok : BinOk P .and t andV := by
  intro ρ σ w x y v X Y h hx hy
  rcases int2_ok h hx hy with ⟨k, a, b, hk, rfl, rfl, q⟩ | ⟨s, u, hs, hu, rfl, rfl, q⟩
  · cases q
    exact ⟨_, by simp only [binOp, ne_eq, not_true, if_false, Op.intBits, Sem.run_pure], con_int_mk hk _⟩
  · cases q
theorem or_ok : BinOk P .or t orV := by
  intro ρ σ w x y v X Y h hx hy
  rcases int2_ok h hx hy with ⟨k, a, b, hk, rfl, rfl, q⟩ | ⟨s, u, hs, hu, rfl, rfl, q⟩
  · cases q
    exact ⟨_, by simp only [binOp, ne_eq, not_true, if_false, Op.intBits, Sem.run_pure], con_int_mk hk _⟩
  · cases q
theorem xor_ok : BinOk P .xor t xorV := by
  intro ρ σ w x y v X Y h hx hy
  rcases int2_ok h hx hy with ⟨k, a, b, hk, rfl, rfl, q⟩ | ⟨s, u, hs, hu, rfl, rfl, q⟩
  · cases q
    exact ⟨_, by simp only [binOp, ne_eq, not_true, if_false, Op.intBits, Sem.run_pure], con_int_mk hk _⟩
  · cases q
theorem sh_inv {op : BinOp} (h : shV op x y = .ok v) (hx : con ρ σ x = some X) (hy : con ρ σ y = some Y) :
    ∃ k a k' n, k < 8 ∧ X = .int (kindOf k) a ∧ Y = .int k' ((n : Nat) : Int) ∧
      ((op = .shl ∧ v = .int k ((kindOf k).wrap (a * 2 ^ min n (kindOf k).bits))) ∨ (op = .shr ∧ v = .int k (a.fdiv (2 ^ min n (kindOf k).bits)))) := by
  obtain ⟨k, a, rfl, q1⟩ := onInt_inv h (by simp)
  obtain ⟨k', b, rfl, q2⟩ := onInt_inv q1 (by simp)
  obtain ⟨n, rfl, q3⟩ := onNat_inv q2 (by simp)
  obtain ⟨h1, rfl⟩ := con_int hx
  obtain ⟨h2, rfl⟩ := con_int hy
  refine ⟨k, a, _, n, h1, rfl, rfl, ?_⟩
  cases op <;> simp only [reduceCtorEq] at q3
  · cases q3; exact .inl ⟨rfl, rfl⟩
  · cases q3; exact .inr ⟨rfl, rfl⟩
theorem shl_ok : BinOk P .shl t (shV .shl) := by
  intro ρ σ w x y v X Y h hx hy
  obtain ⟨k, a, k', n, hk, rfl, rfl, ⟨_, rfl⟩ | ⟨h', _⟩⟩ := sh_inv h hx hy
  · refine ⟨_, ?_, con_int_mk hk _⟩
    simp only [binOp, Op.shift]
    rw [if_neg (by omega)]
    simp only [Int.toNat_natCast, Sem.run_pure]
  · cases h'
theorem shr_ok : BinOk P .shr t (shV .shr) := by
  intro ρ σ w x y v X Y h hx hy
  obtain ⟨k, a, k', n, hk, rfl, rfl, ⟨h', _⟩ | ⟨_, rfl⟩⟩ := sh_inv h hx hy
  · cases h'
  · refine ⟨_, ?_, con_int_mk hk _⟩
    simp only [binOp, Op.shift]
    rw [if_neg (by omega)]
    simp only [Int.toNat_natCast, Sem.run_pure]
theorem lss_ok : BinOk P .lss t lssV := by
  intro ρ σ w x y v X Y h hx hy
  rcases int2_ok h hx hy with ⟨k, a, b, hk, rfl, rfl, q⟩ | ⟨s, u, hs, hu, rfl, rfl, q⟩
  · cases q
    exact ⟨.bool (decide (a < b)), by simp [binOp, Op.intCmp], by rw [ltI_eq]; rfl⟩
  · cases q
    refine ⟨.bool (ltX s u), ?_, rfl⟩
    simp only [binOp, Op.stringOp, str_less hs hu, Sem.run_pure]
theorem geq_ok : BinOk P .geq t geqV := by
  intro ρ σ w x y v X Y h hx hy
  rcases int2_ok h hx hy with ⟨k, a, b, hk, rfl, rfl, q⟩ | ⟨s, u, hs, hu, rfl, rfl, q⟩
  · cases q
    refine ⟨.bool (decide (b ≤ a)), by simp [binOp, Op.intCmp], ?_⟩
    rw [notB_eq, ltI_eq]
    show some (Value.bool (!decide (a < b))) = _
    congr 2
    rw [← decide_not, decide_eq_decide]; omega
  · cases q
    refine ⟨.bool (!(ltX s u)), ?_, by rw [notB_eq]; rfl⟩
    simp only [binOp, Op.stringOp, str_less hs hu, Sem.run_pure]
theorem gtr_ok : BinOk P .gtr t gtrV := by
  intro ρ σ w x y v X Y h hx hy
  rcases int2_ok h hx hy with ⟨k, a, b, hk, rfl, rfl, q⟩ | ⟨s, u, hs, hu, rfl, rfl, q⟩
  · cases q
    exact ⟨.bool (decide (b < a)), by simp [binOp, Op.intCmp], by rw [ltI_eq]; rfl⟩
  · cases q
    refine ⟨.bool (!(ltX s u || eqX s u)), ?_, by rw [notB_eq, orB_eq]; rfl⟩
    simp only [binOp, Op.stringOp, str_less hs hu, str_beq hs hu, Sem.run_pure]
theorem leq_ok : BinOk P .leq t leqV := by
  intro ρ σ w x y v X Y h hx hy
  rcases int2_ok h hx hy with ⟨k, a, b, hk, rfl, rfl, q⟩ | ⟨s, u, hs, hu, rfl, rfl, q⟩
  · cases q
    refine ⟨.bool (decide (a ≤ b)), by simp [binOp, Op.intCmp], ?_⟩
    rw [notB_eq, ltI_eq]
    show some (Value.bool (!decide (b < a))) = _
    congr 2
    rw [← decide_not, decide_eq_decide]; omega
  · cases q
    refine ⟨.bool (ltX s u || eqX s u), ?_, by rw [orB_eq]; rfl⟩
    simp only [binOp, Op.stringOp, str_less hs hu, str_beq hs hu, Sem.run_pure]

/-! equality -/
def bop (p : Bool) : BinOp := if p then .eql else .neq
theorem one_eq (b p : Bool) : one b p = .ok (.bool (if p then b else !b)) := by cases p <;> simp [one]
theorem one_inv {b p : Bool} (h : one b p = .ok v) : v = .bool (if p then b else !b) := by rw [one_eq] at h; cases h; rfl
/-- values that are neither numbers nor texts go to the model's Equal -/
theorem eq_run {p b : Bool} (hX : ∀ k n, X ≠ .int k n) (hX2 : ∀ k n, X ≠ .float k n) (hX3 : ∀ k n m, X ≠ .complex k n m) (hX4 : ∀ s, X ≠ .string s) (he : (Op.equal t X Y).run P w = .ok b w) :
    (binOp (bop p) t X Y).run P w = .ok (.bool (if p then b else !b)) w := by
  cases p
  · show (binOp .neq t X Y).run P w = _
    have : binOp .neq t X Y = (do pure (.bool (!(← Op.equal t X Y)))) := by
      cases X <;> first | (exact absurd rfl (hX _ _)) | (exact absurd rfl (hX2 _ _)) | (exact absurd rfl (hX3 _ _ _)) | (exact absurd rfl (hX4 _)) | rfl
    rw [this]; simp [he]
  · show (binOp .eql t X Y).run P w = _
    have : binOp .eql t X Y = (do pure (.bool (← Op.equal t X Y))) := by
      cases X <;> first | (exact absurd rfl (hX _ _)) | (exact absurd rfl (hX2 _ _)) | (exact absurd rfl (hX3 _ _ _)) | (exact absurd rfl (hX4 _)) | rfl
    rw [this]; simp [he]
theorem bop_fin {p b : Bool} {v : AV} {Z : Value} (h : one b p = .ok v) (hZ : Z = .bool (if p then b else !b)) : con ρ σ v = some Z := by
  rw [one_inv h, hZ]; rfl
theorem eqNum_ok (p : Bool) : BinOk P (bop p) t (eqNum p) := by
  intro ρ σ w x y v X Y h hx hy
  rcases int2_ok h hx hy with ⟨k, a, b, hk, rfl, rfl, q⟩ | ⟨s, u, hs, hu, rfl, rfl, q⟩
  · refine ⟨_, ?_, bop_fin q rfl⟩
    cases p
    · simp only [bop, binOp, Op.intCmp, Bool.false_eq_true, if_false, ne_eq, not_true, Sem.run_pure, eqI_eq]
      congr 2
    · simp only [bop, binOp, Op.intCmp, if_true, ne_eq, not_true, if_false, Sem.run_pure, eqI_eq]
      congr 2
  · refine ⟨_, ?_, bop_fin q rfl⟩
    cases p
    · simp only [bop, binOp, Op.stringOp, Bool.false_eq_true, if_false, Sem.run_pure, str_beq hs hu]
    · simp only [bop, binOp, Op.stringOp, if_true, Sem.run_pure, str_beq hs hu]
theorem run_underlying' {d : TypeDesc} (h : P.underlying t = some d) : (underlying t).run P w = .ok d w := by
  simp [underlying, h]
theorem equal_run (t : TypeId) (X Y : Value) : Op.equal t X Y = Op.equalIn (9999 + 1) t X Y := rfl
theorem eqBool_ok (p : Bool) (hu : P.underlying t = some .bool) : BinOk P (bop p) t (eqBool p) := by
  intro ρ σ w x y v X Y h hx hy
  obtain ⟨a, rfl, q1⟩ := onBool_inv h (by simp)
  obtain ⟨b, rfl, q2⟩ := onBool_inv q1 (by simp)
  have := con_bool hx; subst this
  have := con_bool hy; subst this
  refine ⟨_, eq_run (by simp) (by simp) (by simp) (by simp) ?_, bop_fin q2 rfl⟩
  rw [equal_run, Op.equalIn]
  simp only [Sem.run_bind, run_underlying' hu, Result.andThen_ok, Sem.run_pure]
  congr 1
  cases a <;> cases b <;> rfl
theorem eqPtr_ok (p : Bool) {e : TypeId} {ie : TypeInfo} (hu : P.underlying t = some (.pointer e)) (hi : P.info? e = some ie) (hs : ie.size ≠ 0) : BinOk P (bop p) t (eqPtr p) := by
  intro ρ σ w x y v X Y h hx hy
  rcases onPtrN_inv h (by simp) with ⟨rfl, q1⟩ | ⟨b, o, rfl, q1⟩ <;> rcases onPtrN_inv q1 (by simp) with ⟨rfl, q2⟩ | ⟨b', o', rfl, q2⟩
  · cases hx; cases hy
    refine ⟨_, eq_run (by simp) (by simp) (by simp) (by simp) ?_, bop_fin q2 rfl⟩
    rw [equal_run, Op.equalIn]; simp [run_underlying' hu]
  · cases hx
    obtain ⟨q, hq, rfl⟩ := con_ptr hy
    refine ⟨_, eq_run (by simp) (by simp) (by simp) (by simp) ?_, bop_fin q2 rfl⟩
    rw [equal_run, Op.equalIn]; simp [run_underlying' hu]
  · cases hy
    obtain ⟨q, hq, rfl⟩ := con_ptr hx
    refine ⟨_, eq_run (by simp) (by simp) (by simp) (by simp) ?_, bop_fin q2 rfl⟩
    rw [equal_run, Op.equalIn]; simp [run_underlying' hu]
  · obtain ⟨hb, q3⟩ := sw_inv q2 (by simp)
    have hb := Nat.eq_of_beq_eq_true hb
    subst hb
    obtain ⟨q, hq, rfl⟩ := con_ptr hx
    obtain ⟨q', hq', rfl⟩ := con_ptr hy
    rw [hq] at hq'; cases hq'
    refine ⟨_, eq_run (by simp) (by simp) (by simp) (by simp) ?_, bop_fin q3 rfl⟩
    rw [equal_run, Op.equalIn]
    simp only [Sem.run_bind, run_underlying' hu, Result.andThen_ok, Go.sizeOf, typeInfo, run_program, hi, Sem.run_pure, Sem.run_ite, hs, ne_eq, not_false_eq_true, if_true, sameAddr, beq_self_eq_true]
    congr 1
    rw [beq_dec, Bool.eq_iff_iff]
    simp
theorem eqSl_ok (p : Bool) {e : TypeId} (hu : P.underlying t = some (.slice e)) : BinOk P (bop p) t (eqSl p) := by
  intro ρ σ w x y v X Y h hx hy
  rcases onSl_inv h (by simp) with ⟨rfl, q1⟩ | ⟨b, o, n, c, e1, rfl, q1⟩ <;> rcases onSl_inv q1 (by simp) with ⟨rfl, q2⟩ | ⟨b', o', n', c', e2, rfl, q2⟩
  · cases hx; cases hy
    refine ⟨_, eq_run (by simp) (by simp) (by simp) (by simp) ?_, bop_fin q2 rfl⟩
    rw [equal_run, Op.equalIn]; simp [run_underlying' hu]
  · cases hx
    obtain ⟨q, hq, rfl, _⟩ := con_slice hy
    refine ⟨_, eq_run (by simp) (by simp) (by simp) (by simp) ?_, bop_fin q2 rfl⟩
    rw [equal_run, Op.equalIn]; simp [run_underlying' hu]
  · cases hy
    obtain ⟨q, hq, rfl, _⟩ := con_slice hx
    refine ⟨_, eq_run (by simp) (by simp) (by simp) (by simp) ?_, bop_fin q2 rfl⟩
    rw [equal_run, Op.equalIn]; simp [run_underlying' hu]
  · cases q2
theorem eqMap_ok (p : Bool) {k e : TypeId} (hu : P.underlying t = some (.map k e)) : BinOk P (bop p) t (eqMap p) := by
  intro ρ σ w x y v X Y h hx hy
  rcases onMapN_inv h (by simp) with ⟨rfl, q1⟩ | ⟨b, rfl, q1⟩ <;> rcases onMapN_inv q1 (by simp) with ⟨rfl, q2⟩ | ⟨b', rfl, q2⟩
  · cases hx; cases hy
    refine ⟨_, eq_run (by simp) (by simp) (by simp) (by simp) ?_, bop_fin q2 rfl⟩
    rw [equal_run, Op.equalIn]; simp [run_underlying' hu]
  · cases hx
    obtain ⟨q, hq, rfl⟩ := con_map hy
    refine ⟨_, eq_run (by simp) (by simp) (by simp) (by simp) ?_, bop_fin q2 rfl⟩
    rw [equal_run, Op.equalIn]; simp [run_underlying' hu]
  · cases hy
    obtain ⟨q, hq, rfl⟩ := con_map hx
    refine ⟨_, eq_run (by simp) (by simp) (by simp) (by simp) ?_, bop_fin q2 rfl⟩
    rw [equal_run, Op.equalIn]; simp [run_underlying' hu]
  · cases q2
theorem eqFunc_ok (p : Bool) {a b : Array TypeId} {c : Bool} (hu : P.underlying t = some (.func a b c)) : BinOk P (bop p) t (eqFunc p) := by
  intro ρ σ w x y v X Y h hx hy
  rcases onFuncN_inv h (by simp) with ⟨rfl, q1⟩ | ⟨f, l, m, rfl, q1⟩ <;> rcases onFuncN_inv q1 (by simp) with ⟨rfl, q2⟩ | ⟨f', l', m', rfl, q2⟩
  · cases hx; cases hy
    refine ⟨_, eq_run (by simp) (by simp) (by simp) (by simp) ?_, bop_fin q2 rfl⟩
    rw [equal_run, Op.equalIn]; simp [run_underlying' hu]
  · cases hx
    obtain ⟨_, _, _, _, rfl⟩ := con_func hy
    refine ⟨_, eq_run (by simp) (by simp) (by simp) (by simp) ?_, bop_fin q2 rfl⟩
    rw [equal_run, Op.equalIn]; simp [run_underlying' hu]
  · cases hy
    obtain ⟨_, _, _, _, rfl⟩ := con_func hx
    refine ⟨_, eq_run (by simp) (by simp) (by simp) (by simp) ?_, bop_fin q2 rfl⟩
    rw [equal_run, Op.equalIn]; simp [run_underlying' hu]
  · cases q2
theorem eqIf_ok (p : Bool) {ms : Array (String × TypeId)} (hu : P.underlying t = some (.interface ms)) : BinOk P (bop p) t (eqIf p) := by
  intro ρ σ w x y v X Y h hx hy
  rcases onIf_inv h (by simp) with ⟨rfl, q1⟩ | ⟨f, l, rfl, q1⟩ <;> rcases onIf_inv q1 (by simp) with ⟨rfl, q2⟩ | ⟨f', l', rfl, q2⟩
  · cases hx; cases hy
    refine ⟨_, eq_run (by simp) (by simp) (by simp) (by simp) ?_, bop_fin q2 rfl⟩
    rw [equal_run, Op.equalIn]; simp [run_underlying' hu]
  · cases hx
    obtain ⟨_, _, rfl⟩ := con_iface hy
    refine ⟨_, eq_run (by simp) (by simp) (by simp) (by simp) ?_, bop_fin q2 rfl⟩
    rw [equal_run, Op.equalIn]; simp [run_underlying' hu]
  · cases hy
    obtain ⟨_, _, rfl⟩ := con_iface hx
    refine ⟨_, eq_run (by simp) (by simp) (by simp) (by simp) ?_, bop_fin q2 rfl⟩
    rw [equal_run, Op.equalIn]; simp [run_underlying' hu]
  · cases q2
/-! structs of two texts -/
theorem part_run {e : TypeId} {cs : Array Value} {off : Nat} {v : Value} (hu : P.underlying e = some .string) (h : cs[off]? = some v) : (part e cs off).run P w = .ok v w := by
  unfold part isAgg
  simp [run_underlying' hu, h]
theorem eqStr_run (a a' : ByteArray) {e : TypeId} (hue : P.underlying e = some .string) : (Op.equalIn 9999 e (.string a) (.string a')).run P w = .ok (a == a') w := by
  rw [run_equalIn_string _ _ _ _ _ hue, ← beq_toListBytes]
theorem eqSt_run {f0 f1 : Field} {xs ys : Array Value} {a a' : ByteArray} {r : Bool} (hu : P.underlying t = some (.struct #[f0, f1])) (hst : P.stoodInHeld t = false)
    (n0 : f0.name ≠ "_") (n1 : f1.name ≠ "_") (u0 : P.underlying f0.type = some .string) (u1 : P.underlying f1.type = some .string)
    (x0 : xs[f0.offset]? = some (.string a)) (y0 : ys[f0.offset]? = some (.string a'))
    (h : ((a == a') = false ∧ r = false) ∨ ((a == a') = true ∧ ∃ b b', xs[f1.offset]? = some (.string b) ∧ ys[f1.offset]? = some (.string b') ∧ r = (b == b'))) :
    (Op.equal t (.agg xs) (.agg ys)).run P w = .ok r w := by
  have hf : P.fieldsOf t = #[f0, f1] := by simp [Program.fieldsOf, hu]
  rw [equal_run, run_equalIn_struct _ _ _ _ _ (by rw [hf]; exact hu) hst, hf]
  rcases h with ⟨h, rfl⟩ | ⟨h, b, b', hb, hb', rfl⟩
  · simp [Op.eqFields, n0, part_run u0 x0, part_run u0 y0, eqStr_run a a' u0, h]
  · simp [Op.eqFields, n0, n1, part_run u0 x0, part_run u0 y0, eqStr_run a a' u0, h, part_run u1 hb, part_run u1 hb', eqStr_run b b' u1]
    cases b == b' <;> simp
theorem eqS1_inv {x y : AV} {f : Bool → R1} {v : AV} {X Y : Value} (h : eqS1 x y f = .ok v) (hx : con ρ σ x = some X) (hy : con ρ σ y = some Y) :
    ∃ a b : ByteArray, X = .string a ∧ Y = .string b ∧ f (a == b) = .ok v := by
  unfold eqS1 at h
  by_cases hs : ∃ s, x = .str s
  · obtain ⟨s, rfl⟩ := hs
    change onStr y _ _ = _ at h
    obtain ⟨u, rfl, q1⟩ := onStr_inv h (by simp)
    obtain ⟨hs, rfl⟩ := con_str hx
    obtain ⟨hu, rfl⟩ := con_str hy
    exact ⟨_, _, rfl, rfl, by rw [beq_toListBytes, str_beq hs hu]; exact q1⟩
  · have h' : onAtom x (fun i => onAtom y (fun j => sw (Nat.beq i j) (f true) .no) .no) .no = .ok v := by
      cases x <;> first | exact h | exact absurd ⟨_, rfl⟩ hs
    obtain ⟨i, rfl, q1⟩ := onAtom_inv h' (by simp)
    obtain ⟨j, rfl, q2⟩ := onAtom_inv q1 (by simp)
    cases hb : Nat.beq i j with
    | false => rw [hb] at q2; cases q2
    | true =>
      rw [hb] at q2
      obtain rfl := Nat.eq_of_beq_eq_true hb
      simp only [con, Option.some.injEq] at hx hy
      subst hx; subst hy
      exact ⟨_, _, rfl, rfl, by rw [beq_toListBytes, beq_self_eq_true]; exact q2⟩
theorem eqSt_ok (p : Bool) {fs : Array Field} (hu : P.underlying t = some (.struct fs)) (h2 : twoStr P t fs = true) : BinOk P (bop p) t (eqSt p) := by
  intro ρ σ w x y v X Y h hx hy
  obtain ⟨f0, f1, hfs⟩ : ∃ f0 f1, fs.toList = [f0, f1] := by
    unfold twoStr at h2
    split at h2
    · rename_i f0 f1 e; exact ⟨f0, f1, e⟩
    · cases h2
  have hfs' : fs = #[f0, f1] := by cases fs; simp_all
  subst hfs'
  simp only [twoStr, Bool.and_eq_true, Bool.not_eq_true', beq_iff_eq, bne_iff_ne, ne_eq] at h2
  obtain ⟨⟨⟨⟨⟨⟨⟨s0, s1⟩, o0⟩, o1⟩, n0⟩, n1⟩, hst⟩, _⟩ := h2
  have us {e : TypeId} (hs : isStrT P e = true) : P.underlying e = some .string := by
    unfold isStrT at hs
    split at hs
    · assumption
    · cases hs
  obtain ⟨xs, rfl, q1⟩ := onAgg_inv h (by simp)
  obtain ⟨ys, rfl, q2⟩ := onAgg_inv q1 (by simp)
  obtain ⟨a, xs', rfl, q3⟩ := onList_inv q2 (by simp)
  obtain ⟨a', ys', rfl, q4⟩ := onList_inv q3 (by simp)
  obtain ⟨cx, hcx, _, rfl⟩ := con_agg hx
  obtain ⟨cy, hcy, _, rfl⟩ := con_agg hy
  obtain ⟨A, tx, hA, htx, rfl⟩ := conL_cons.1 hcx
  obtain ⟨A', ty, hA', hty, rfl⟩ := conL_cons.1 hcy
  obtain ⟨sa, sa', rfl, rfl, q5⟩ := eqS1_inv q4 hA hA'
  cases hab : sa == sa' with
  | false =>
    rw [hab] at q5
    refine ⟨_, eq_run (by simp) (by simp) (by simp) (by simp) (eqSt_run (a := sa) (a' := sa') (r := false) hu hst n0 n1 (us s0) (us s1) (by rw [o0]; rfl) (by rw [o0]; rfl) (.inl ⟨hab, rfl⟩)), bop_fin q5 rfl⟩
  | true =>
    rw [hab] at q5
    change onList xs' _ _ = _ at q5
    obtain ⟨b, xs2, rfl, q6⟩ := onList_inv q5 (by simp)
    obtain ⟨b', ys2, rfl, q7⟩ := onList_inv q6 (by simp)
    obtain ⟨B, tx2, hB, htx2, rfl⟩ := conL_cons.1 htx
    obtain ⟨B', ty2, hB', hty2, rfl⟩ := conL_cons.1 hty
    obtain ⟨sb, sb', rfl, rfl, q8⟩ := eqS1_inv q7 hB hB'
    refine ⟨_, eq_run (by simp) (by simp) (by simp) (by simp) (eqSt_run (a := sa) (a' := sa') (r := sb == sb') hu hst n0 n1 (us s0) (us s1) (by rw [o0]; rfl) (by rw [o0]; rfl) (.inr ⟨hab, sb, sb', by rw [o1]; rfl, by rw [o1]; rfl, rfl⟩)), bop_fin q8 rfl⟩
end
end Go.Proofs.YteahdpjeoeeemaaGreatDoor.Ax

namespace Go.Proofs.YteahdpjeoeeemaaGreatDoor.Ax
set_option linter.unusedVariables false
set_option linter.unusedSimpArgs false
set_option linter.unnecessarySimpa false

structure Cx (P : Program) (σ : Nat → ByteArray) (nt : Nat) (ρ : Rho) (h : AH) (w : World) (r : Rg) (a : Act) : Prop where
  rel : Rel P.globals.size ρ σ h w
  reg : RegOk ρ σ nt r a

def PureOk (P : Program) (σ : Nat → ByteArray) (nt : Nat) (o : Oper) (f : Rg → R1) : Prop :=
  ∀ (ρ : Rho) (h : AH) (w : World) (r : Rg) (a : Act) (v : AV), Cx P σ nt ρ h w r a → f r = .ok v → ∃ x, (execOp a.eval o).run P w = .ok (.value x) w ∧ con ρ σ v = some x
def ReadOk (P : Program) (σ : Nat → ByteArray) (nt : Nat) (o : Oper) (f : Rg → AH → R1) : Prop :=
  ∀ (ρ : Rho) (h : AH) (w : World) (r : Rg) (a : Act) (v : AV), Cx P σ nt ρ h w r a → f r h = .ok v → ∃ x, (execOp a.eval o).run P w = .ok (.value x) w ∧ con ρ σ v = some x
def AllocOk (P : Program) (σ : Nat → ByteArray) (nt : Nat) (o : Oper) (f : Rg → Nat → RA) : Prop :=
  ∀ (ρ : Rho) (h : AH) (w : World) (r : Rg) (a : Act) (id : Nat) (v : AV) (b : Blk), Cx P σ nt ρ h w r a → f r id = .ok v b →
    ∃ x w' obj p, (execOp a.eval o).run P w = .ok (.value x) w' ∧ w'.heap = w.heap.push obj ∧ w'.os = w.os ∧ w'.tape = w.tape ∧ w'.output = w.output ∧ p.blk = w.heap.size ∧
      ∀ ρ' : Rho, ρ.le ρ' → ρ' id = some p → BRel ρ' σ p (some obj) b ∧ con ρ' σ v = some x
/-- a loud operation that enters no function -/
def TurnOk (P : Program) (σ : Nat → ByteArray) (nt : Nat) (o : Oper) (f : Rg → AH → RH) : Prop :=
  ∀ (ρ : Rho) (h : AH) (w : World) (r : Rg) (a : Act) (v : AV) (h' : AH), Cx P σ nt ρ h w r a → f r h = .ok v h' →
    ∃ n x w' ρ', (execOp a.eval o).run P w = .ok n w' ∧ (n = .value x ∨ (n = .skip ∧ x = undef)) ∧ Ext P.globals.size σ ρ h w ρ' h' w' ∧ con ρ' σ v = some x

section
variable {P : Program} {σ : Nat → ByteArray} {nt : Nat} {o : Oper}

theorem Cx.opd {ρ : Rho} {h : AH} {w : World} {r : Rg} {a : Act} (C : Cx P σ nt ρ h w r a) {x : Operand} (hx : okOpd P nt x = true) : con ρ σ ((cOpd x).run r) = some (a.eval x) :=
  opd_ok C.rel.glob C.reg hx
theorem Cx.opds {ρ : Rho} {h : AH} {w : World} {r : Rg} {a : Act} (C : Cx P σ nt ρ h w r a) {l : List Operand} (hx : l.all (okOpd P nt) = true) : conL ρ σ ((cOpds l).run r) = some (l.map a.eval) :=
  opds_ok C.rel.glob C.reg hx

/-- what 'v s' of the model's execOp comes to -/
theorem run_v {s : Sem Value} {x : Value} {w w' : World} (h : s.run P w = .ok x w') : (do pure (Next.value (← s)) : Sem Next).run P w = .ok (.value x) w' := by
  simp [h]
theorem run_u {s : Sem Unit} {w w' : World} (h : s.run P w = .ok () w') : (do s; pure Next.skip : Sem Next).run P w = .ok .skip w' := by
  simp [h]

theorem move_ok {x : Operand} (ho : o.op = .move x ∨ o.op = .assign x) (hx : okOpd P nt x = true) : PureOk P σ nt o (fun r => .ok ((cOpd x).run r)) := by
  intro ρ h w r a v C e
  cases e
  refine ⟨a.eval x, ?_, C.opd hx⟩
  rcases ho with ho | ho <;> simp [execOp, ho]
theorem pick_ok {c x y : Operand} (ho : o.op = .pick c x y) (hc : okOpd P nt c = true) (hx : okOpd P nt x = true) (hy : okOpd P nt y = true) :
    PureOk P σ nt o (fun r => onBool ((cOpd c).run r) (fun t => sw t (.ok ((cOpd x).run r)) (.ok ((cOpd y).run r))) .no) := by
  intro ρ h w r a v C e
  obtain ⟨b, hb, e⟩ := onBool_inv e (by simp)
  have h1 := C.opd hc
  rw [hb] at h1
  have h1 := con_bool h1
  cases b
  · cases e
    exact ⟨a.eval y, by simp [execOp, ho, h1, asBool], C.opd hy⟩
  · cases e
    exact ⟨a.eval x, by simp [execOp, ho, h1, asBool], C.opd hx⟩
theorem nilCheck_ok {x : Operand} (ho : o.op = .nilCheck x) (hx : okOpd P nt x = true) : PureOk P σ nt o (fun r => nilCheckV ((cOpd x).run r)) := by
  intro ρ h w r a v C e
  have h1 := C.opd hx
  change nilCheckV ((cOpd x).run r) = .ok v at e
  unfold nilCheckV at e
  generalize (cOpd x).run r = y at e h1
  cases y <;> simp only [onPtr, onFunc, reduceCtorEq] at e
  · obtain ⟨p, hp, hX⟩ := con_ptr h1
    cases e
    exact ⟨a.eval x, by simp [execOp, ho, hX], h1⟩
  · obtain ⟨xs, ys, _, _, hX⟩ := con_func h1
    cases e
    exact ⟨a.eval x, by simp [execOp, ho, hX], h1⟩
theorem extract_ok {x : Operand} {i : Nat} (ho : o.op = .extract x i) (hx : okOpd P nt x = true) : PureOk P σ nt o (fun r => extractV i ((cOpd x).run r)) := by
  intro ρ h w r a v C e
  have h1 := C.opd hx
  obtain ⟨l, hl, e⟩ := onTup_inv e (by simp)
  rw [hl] at h1
  obtain ⟨xs, hxs, hX⟩ := con_tup h1
  unfold nth at e
  obtain ⟨y, t, hd, e⟩ := onList_inv e (by simp)
  cases e
  rw [dropX_eq] at hd
  have hi : l[i]? = some v := by
    have := congrArg (fun m => m[0]?) hd
    simpa using this
  obtain ⟨z, hz, hc⟩ := conL_get hxs hi
  refine ⟨z, ?_, hc⟩
  simp only [execOp, ho]
  refine run_v ?_
  rw [hX]
  simp [Instr.extract, hz]
theorem makeFunc_ok {f : FuncId} {first cap : Array Operand} (ho : o.op = .makeFunc (.func f) first cap) (h1 : first.toList.all (okOpd P nt) = true) (h2 : cap.toList.all (okOpd P nt) = true) :
    PureOk P σ nt o (fun r => .ok (.func f ((cOpds first.toList).run r) ((cOpds cap.toList).run r))) := by
  intro ρ h w r a v C e
  cases e
  refine ⟨.func (.func f) (first.map a.eval) (cap.map a.eval), ?_, ?_⟩
  · simp only [execOp, ho]
    exact run_v rfl
  · simp only [con, C.opds h1, C.opds h2]
    simp [← Array.toList_map]
theorem makeInterface_ok {t : TypeId} {x : Operand} (ho : o.op = .makeInterface t x) (hx : okOpd P nt x = true) {d : TypeDesc} (hu : P.underlying t = some d) (hd : ∀ ms, d ≠ .interface ms) :
    PureOk P σ nt o (fun r => .ok (.iface t ((cOpd x).run r))) := by
  intro ρ h w r a v C e
  cases e
  refine ⟨.iface t (a.eval x), ?_, ?_⟩
  · simp only [execOp, ho]
    refine run_v ?_
    unfold Instr.makeInterface
    simp only [Sem.run_bind, run_underlying' hu, Result.andThen_ok]
    cases d <;> first | exact absurd rfl (hd _) | rfl
  · simp only [con, C.opd hx]
theorem fieldAddr_ok {s : TypeId} {x : Operand} {f off : Nat} (ho : o.op = .fieldAddr s x f) (hx : okOpd P nt x = true) (hf : fieldAddrF P s f = some off) :
    PureOk P σ nt o (fun r => onPtr ((cOpd x).run r) (fun b o => .ok (.ptr b (Nat.add o off))) .no) := by
  intro ρ h w r a v C e
  obtain ⟨b, q, hb, e⟩ := onPtr_inv e (by simp)
  cases e
  have h1 := C.opd hx
  rw [hb] at h1
  obtain ⟨p, hp, hX⟩ := con_ptr h1
  unfold fieldAddrF fieldsOf at hf
  cases hu : P.underlying s with
  | none => rw [hu] at hf; cases hf
  | some d =>
    rw [hu] at hf
    cases d <;> simp only [reduceCtorEq] at hf
    rename_i fs
    cases hfd : fs[f]? with
    | none => rw [hfd] at hf; cases hf
    | some fd =>
      rw [hfd] at hf
      simp only at hf
      cases hi : P.info? fd.type with
      | none => rw [hi] at hf; cases hf
      | some i =>
        rw [hi] at hf
        simp only at hf
        split at hf
        · cases hf
        · rename_i hne
          cases hf
          refine ⟨.pointer (some ⟨p.blk, p.base + (q + fd.offset), none⟩), ?_, con_ptr_mk hp⟩
          simp only [execOp, ho]
          refine run_v ?_
          rw [hX]
          simp only [Instr.fieldAt, Sem.run_bind, run_underlying' hu, Result.andThen_ok, hfd, Instr.sureAddr, Sem.run_pure, fieldPlace, Go.sizeOf, typeInfo, run_program, hi, hne, if_false]
          unfold Addr.add
          split
          · rename_i h0; rw [h0]; rfl
          · simp only [Sem.run_pure, Nat.add_assoc]
/-- the address a number of cells on -/
theorem addr_add (b k n : Nat) : (⟨b, k, none⟩ : Addr).add n = ⟨b, k + n, none⟩ := by
  unfold Addr.add
  split
  · rename_i h0; rw [h0]; rfl
  · rfl
/-- cells of an aggregate -/
theorem fieldV_ok {off n : Nat} {g : Bool} {x v : AV} {X : Value} {ρ : Rho} {w : World} {t : TypeId} (he : fieldV off g n x = .ok v) (hx : con ρ σ x = some X) (hg : aggOf P t = some (g, n)) :
    ∃ cs Z, X = .agg cs ∧ (part t cs off).run P w = .ok Z w ∧ con ρ σ v = some Z := by
  obtain ⟨l, rfl, e⟩ := onAgg_inv he (by simp)
  obtain ⟨xs, hxs, hcell, rfl⟩ := con_agg hx
  have hlen := conL_length hxs
  unfold aggOf at hg
  have hagg : ∃ i, P.info? t = some i ∧ i.size = n ∧ (isAgg t).run P w = .ok g w := by
    cases hu : P.underlying t with
    | none => rw [hu] at hg; simp at hg
    | some d =>
      cases hi : P.info? t with
      | none => rw [hu, hi] at hg; cases d <;> simp at hg
      | some i =>
        rw [hu, hi] at hg
        refine ⟨i, rfl, ?_⟩
        cases d <;> simp at hg <;> obtain ⟨rfl, rfl⟩ := hg <;> exact ⟨rfl, by simp [isAgg, run_underlying' hu]⟩
  obtain ⟨i, hi, rfl, hagg⟩ := hagg
  cases g with
  | true =>
    simp only [sw_true] at e
    obtain ⟨vs, hvs, e⟩ := onOpt_inv e (by simp)
    cases e
    rw [dropX_eq] at hvs
    obtain ⟨hle, rfl⟩ := takeX_some hvs
    refine ⟨_, .agg (xs.toArray.extract off (off + i.size)), rfl, ?_, ?_⟩
    · simp only [part, Sem.run_bind, hagg, Result.andThen_ok, if_true, Go.sizeOf, typeInfo, run_program, hi, Sem.run_pure]
    · have h2 := conL_take i.size (conL_drop off hxs)
      rw [con_agg_mk h2 (by
        rw [List.all_eq_true] at hcell ⊢
        intro u hu
        exact hcell u (List.mem_of_mem_drop (List.mem_of_mem_take hu)))]
      congr 2
      apply Array.ext'
      simp [List.take_drop]
  | false =>
    simp only [sw_false] at e
    unfold nth at e
    obtain ⟨y, t', hd, e⟩ := onList_inv e (by simp)
    cases e
    rw [dropX_eq] at hd
    have hi' : l[off]? = some v := by
      have := congrArg (fun m => m[0]?) hd
      simpa using this
    obtain ⟨z, hz, hc⟩ := conL_get hxs hi'
    refine ⟨_, z, rfl, ?_, hc⟩
    simp only [part, Sem.run_bind, hagg, Result.andThen_ok, Bool.false_eq_true, if_false]
    simp [hz]
theorem field_ok {s : TypeId} {x : Operand} {f off n : Nat} {g : Bool} (ho : o.op = .field s x f) (hx : okOpd P nt x = true) (hf : fieldF P s f = some (off, g, n)) :
    PureOk P σ nt o (fun r => fieldV off g n ((cOpd x).run r)) := by
  intro ρ h w r a v C e
  unfold fieldF fieldsOf at hf
  cases hu : P.underlying s with
  | none => rw [hu] at hf; cases hf
  | some d =>
    rw [hu] at hf
    cases d <;> simp only [reduceCtorEq] at hf
    rename_i fs
    cases hfd : fs[f]? with
    | none => rw [hfd] at hf; cases hf
    | some fd =>
      rw [hfd] at hf
      simp only at hf
      cases hg : aggOf P fd.type with
      | none => rw [hg] at hf; cases hf
      | some gn =>
        rw [hg] at hf
        obtain ⟨g', n'⟩ := gn
        simp only [Option.some.injEq, Prod.mk.injEq] at hf
        obtain ⟨rfl, rfl, rfl⟩ := hf
        obtain ⟨cs, Z, hX, hrun, hZ⟩ := fieldV_ok (w := w) e (C.opd hx) hg
        refine ⟨Z, ?_, hZ⟩
        simp only [execOp, ho]
        refine run_v ?_
        rw [hX]
        simp only [Instr.field, Sem.run_bind, run_underlying' hu, Result.andThen_ok, hfd, asAgg, Sem.run_pure, hrun]
theorem indexAddr_sl_ok {t e : TypeId} {x i : Operand} {inf : TypeInfo} (ho : o.op = .indexAddr t x i) (hx : okOpd P nt x = true) (hi : okOpd P nt i = true) (hu : P.underlying t = some (.slice e)) (he : P.info? e = some inf) :
    PureOk P σ nt o (fun r => indexAddrV inf.size ((cOpd x).run r) ((cOpd i).run r)) := by
  intro ρ h w r a v C e'
  obtain ⟨b, q, len, cap, es, hb, e'⟩ := onSlice_inv e' (by simp)
  obtain ⟨k, n, hk, e'⟩ := onInt_inv e' (by simp)
  obtain ⟨m, rfl, e'⟩ := onNat_inv e' (by simp)
  obtain ⟨hlt, e'⟩ := sw_inv e' (by simp)
  cases e'
  rw [blt_dec, decide_eq_true_eq] at hlt
  have h1 := C.opd hx; rw [hb] at h1
  have h2 := C.opd hi; rw [hk] at h2
  obtain ⟨p, hp, hX, _⟩ := con_slice h1
  obtain ⟨_, hY⟩ := con_int h2
  refine ⟨.pointer (some ⟨p.blk, p.base + (q + m * inf.size), none⟩), ?_, con_ptr_mk hp⟩
  simp only [execOp, ho]
  refine run_v ?_
  rw [hX, hY]
  simp only [Instr.indexAt, asIntOf, Sem.run_bind, Sem.run_pure, Result.andThen_ok, run_underlying' hu]
  rw [if_pos ⟨by omega, by omega⟩]
  simp only [Sem.run_bind, Go.sizeOf, typeInfo, run_program, Result.andThen_ok, he, Sem.run_pure, Int.toNat_natCast, addr_add, Nat.add_assoc]
theorem indexAddr_arr_ok {t e : TypeId} {x i : Operand} {inf : TypeInfo} {len : Nat} (ho : o.op = .indexAddr t x i) (hx : okOpd P nt x = true) (hi : okOpd P nt i = true) (hu : P.underlying t = some (.array len e)) (he : P.info? e = some inf) :
    PureOk P σ nt o (fun r => indexAddrArr len inf.size ((cOpd x).run r) ((cOpd i).run r)) := by
  intro ρ h w r a v C e'
  obtain ⟨b, q, hb, e'⟩ := onPtr_inv e' (by simp)
  obtain ⟨k, n, hk, e'⟩ := onInt_inv e' (by simp)
  obtain ⟨m, rfl, e'⟩ := onNat_inv e' (by simp)
  obtain ⟨hlt, e'⟩ := sw_inv e' (by simp)
  cases e'
  rw [blt_dec, decide_eq_true_eq] at hlt
  have h1 := C.opd hx; rw [hb] at h1
  have h2 := C.opd hi; rw [hk] at h2
  obtain ⟨p, hp, hX⟩ := con_ptr h1
  obtain ⟨_, hY⟩ := con_int h2
  refine ⟨.pointer (some ⟨p.blk, p.base + (q + m * inf.size), none⟩), ?_, con_ptr_mk hp⟩
  simp only [execOp, ho]
  refine run_v ?_
  rw [hX, hY]
  simp only [Instr.indexAt, asIntOf, Sem.run_bind, Sem.run_pure, Result.andThen_ok, run_underlying' hu, Instr.sureAddr]
  rw [if_pos ⟨by omega, by omega⟩]
  simp only [Sem.run_bind, Go.sizeOf, typeInfo, run_program, Result.andThen_ok, he, Sem.run_pure, Int.toNat_natCast, addr_add, Nat.add_assoc]
theorem str_get (s : List Nat) (m : Nat) : (⟨(s.map UInt8.ofNat).toArray⟩ : ByteArray)[m]? = (s[m]?).map UInt8.ofNat := by
  by_cases hlt : m < s.length
  · have hs : m < (⟨(s.map UInt8.ofNat).toArray⟩ : ByteArray).size := by rw [str_size]; exact hlt
    rw [getElem?_pos _ m hs, List.getElem?_eq_getElem hlt]
    show some ((s.map UInt8.ofNat).toArray[m]'_) = _
    simp
  · have hs : ¬ m < (⟨(s.map UInt8.ofNat).toArray⟩ : ByteArray).size := by rw [str_size]; exact hlt
    rw [getElem?_neg _ m hs, List.getElem?_eq_none (by omega)]
    rfl
theorem index_str_ok {t : TypeId} {x i : Operand} (ho : o.op = .index t x i) (hx : okOpd P nt x = true) (hi : okOpd P nt i = true) (hu : P.underlying t = some .string) :
    PureOk P σ nt o (fun r => indexStr ((cOpd x).run r) ((cOpd i).run r)) := by
  intro ρ h w r a v C e'
  obtain ⟨s, hb, e'⟩ := onStr_inv e' (by simp)
  obtain ⟨k, n, hk, e'⟩ := onInt_inv e' (by simp)
  obtain ⟨m, rfl, e'⟩ := onNat_inv e' (by simp)
  unfold nthN at e'
  obtain ⟨c, t', hd, e'⟩ := onList_inv e' (by simp)
  cases e'
  rw [dropX_eq] at hd
  have hc : s[m]? = some c := by
    have := congrArg (fun m => m[0]?) hd
    simpa using this
  have h1 := C.opd hx; rw [hb] at h1
  have h2 := C.opd hi; rw [hk] at h2
  obtain ⟨hs, hX⟩ := con_str h1
  obtain ⟨_, hY⟩ := con_int h2
  have hc256 : c < 256 := by
    have := List.all_eq_true.1 hs c (List.mem_of_getElem? hc)
    simpa using this
  refine ⟨.int .u8 c, ?_, con_int_mk (by decide) _⟩
  simp only [execOp, ho]
  refine run_v ?_
  rw [hX, hY]
  simp only [Instr.index, asIntOf, Sem.run_bind, Sem.run_pure, Result.andThen_ok, run_underlying' hu]
  rw [if_pos (by omega), Int.toNat_natCast, str_get, hc]
  simp only [Option.map_some, Sem.run_pure, UInt8.toNat_ofNat', Nat.mod_eq_of_lt hc256]
theorem index_arr_ok {t e : TypeId} {x i : Operand} {len n : Nat} {g : Bool} (ho : o.op = .index t x i) (hx : okOpd P nt x = true) (hi : okOpd P nt i = true) (hu : P.underlying t = some (.array len e)) (hg : aggOf P e = some (g, n)) :
    PureOk P σ nt o (fun r => indexArr len g n ((cOpd x).run r) ((cOpd i).run r)) := by
  intro ρ h w r a v C e'
  obtain ⟨k, q, hk, e'⟩ := onInt_inv e' (by simp)
  obtain ⟨m, rfl, e'⟩ := onNat_inv e' (by simp)
  obtain ⟨hlt, e'⟩ := sw_inv e' (by simp)
  rw [blt_dec, decide_eq_true_eq] at hlt
  have h2 := C.opd hi; rw [hk] at h2
  obtain ⟨_, hY⟩ := con_int h2
  have hinf : ∃ inf, P.info? e = some inf ∧ inf.size = n := by
    unfold aggOf at hg
    cases hue : P.underlying e with
    | none => rw [hue] at hg; simp at hg
    | some d =>
      cases hi : P.info? e with
      | none => rw [hue, hi] at hg; cases d <;> simp at hg
      | some i =>
        rw [hue, hi] at hg
        refine ⟨i, rfl, ?_⟩
        cases d <;> simp at hg <;> exact hg.2
  obtain ⟨inf, hinf, rfl⟩ := hinf
  obtain ⟨cs, Z, hX, hrun, hZ⟩ := fieldV_ok (w := w) e' (C.opd hx) hg
  refine ⟨Z, ?_, hZ⟩
  simp only [execOp, ho]
  refine run_v ?_
  rw [hX, hY]
  simp only [Instr.index, asIntOf, Sem.run_bind, Sem.run_pure, Result.andThen_ok, run_underlying' hu]
  rw [if_pos ⟨by omega, by omega⟩]
  simp only [Sem.run_bind, Go.sizeOf, typeInfo, run_program, Result.andThen_ok, hinf, Sem.run_pure, Int.toNat_natCast]
  exact hrun
end
end Go.Proofs.YteahdpjeoeeemaaGreatDoor.Ax

namespace Go.Proofs.YteahdpjeoeeemaaGreatDoor.Ax
set_option linter.unusedVariables false
set_option linter.unusedSimpArgs false
set_option linter.unnecessarySimpa false

/-- values laid over the cells of an array from a place on -/
def over (c : Array Value) (off : Nat) : List Value → Array Value
  | [] => c
  | v :: vs => over (c.setIfInBounds off v) (off + 1) vs
theorem over_size (vs : List Value) : ∀ (c : Array Value) (off : Nat), (over c off vs).size = c.size := by
  induction vs with
  | nil => intro c off; rfl
  | cons v vs ih => intro c off; rw [over, ih]; simp
theorem over_get (vs : List Value) : ∀ (c : Array Value) (off j : Nat), off + vs.length ≤ c.size → (over c off vs)[j]? = if off ≤ j ∧ j < off + vs.length then vs[j - off]? else c[j]? := by
  induction vs with
  | nil => intro c off j h; rw [over, if_neg (by simp only [List.length_nil]; omega)]
  | cons v vs ih =>
    intro c off j h
    simp only [List.length_cons] at h
    rw [over, ih _ _ _ (by rw [Array.size_setIfInBounds]; omega), Array.getElem?_setIfInBounds]
    by_cases h1 : off = j
    · subst h1
      rw [if_neg (by omega), if_pos rfl, if_pos (by omega), if_pos (by simp only [List.length_cons]; omega)]
      simp
    · by_cases h2 : off + 1 ≤ j ∧ j < off + 1 + vs.length
      · rw [if_pos h2, if_pos (by simp only [List.length_cons]; omega)]
        have e : j - off = (j - (off + 1)) + 1 := by omega
        rw [e, List.getElem?_cons_succ]
      · rw [if_neg h2, if_neg h1, if_neg (by simp only [List.length_cons]; omega)]

section
variable {P : Program} {σ : Nat → ByteArray} {nt : Nat} {o : Oper}

theorem bound_run {V : Value} {k : Nat} {m most : Nat} {w : World} {code : BoundsCode} (hV : V = .int (kindOf k) (m : Int)) (h : m ≤ most) : (Instr.sliceBound V most code).run P w = .ok m w := by
  subst hV
  simp only [Instr.sliceBound, asIntOf, Sem.run_bind, Sem.run_pure, Result.andThen_ok]
  rw [if_pos ⟨by omega, by omega⟩]
  simp
def optVal (a : Act) (x : Option Operand) : Option Value := x.map a.eval
theorem bnd_ok {ρ : Rho} {h : AH} {w : World} {r : Rg} {a : Act} (C : Cx P σ nt ρ h w r a) {x : Option Operand} (hx : ∀ y, x = some y → okOpd P nt y = true) {d most : Nat} {f : Nat → R1} {v : AV}
    (e : bnd ((cOptO x).run r) d most f = .ok v) : ∃ m, f m = .ok v ∧ ((x = none ∧ m = d) ∨ (∃ V, x.map a.eval = some V ∧ m ≤ most ∧ ∀ code, (Instr.sliceBound V most code).run P w = .ok m w)) := by
  cases x with
  | none => exact ⟨d, e, .inl ⟨rfl, rfl⟩⟩
  | some y =>
    change bnd (some ((cOpd y).run r)) d most f = .ok v at e
    have h1 := C.opd (hx y rfl)
    unfold bnd at e
    change onInt ((cOpd y).run r) _ _ = _ at e
    obtain ⟨k, n, hk, e⟩ := onInt_inv e (by simp)
    obtain ⟨m, rfl, e⟩ := onNat_inv e (by simp)
    obtain ⟨hle, e⟩ := sw_inv e (by simp)
    have hle := Nat.le_of_ble_eq_true hle
    rw [hk] at h1
    obtain ⟨_, hV⟩ := con_int h1
    exact ⟨m, e, .inr ⟨_, rfl, hle, fun code => bound_run hV hle⟩⟩

/-- what the model's bounds come to -/
theorem bounds_run {w : World} {isSl : Bool} {len cap l h m : Nat} {lo hi mx : Option Value}
    (hm : (mx = none ∧ m = cap) ∨ (∃ V, mx = some V ∧ ∀ code, (Instr.sliceBound V cap code).run P w = .ok m w))
    (hh : (hi = none ∧ mx = none ∧ h = len) ∨ (∃ V, hi = some V ∧ ∀ code, (Instr.sliceBound V m code).run P w = .ok h w))
    (hl : (lo = none ∧ l = 0) ∨ (∃ V, lo = some V ∧ ∀ code, (Instr.sliceBound V h code).run P w = .ok l w)) :
    (Instr.sliceBounds isSl len cap lo hi mx).run P w = .ok (l, h, m) w := by
  unfold Instr.sliceBounds
  rcases hm with ⟨rfl, rfl⟩ | ⟨V, rfl, hV⟩ <;> rcases hh with ⟨rfl, he, rfl⟩ | ⟨U, rfl, hU⟩ <;> rcases hl with ⟨rfl, rfl⟩ | ⟨T, rfl, hT⟩ <;>
    first
      | (cases he; done)
      | (simp only [Sem.run_bind, Sem.run_pure, Result.andThen_ok, *]; done)

theorem kSl_eq (x : Operand) (lo hi mx : Option Operand) (f : AV → Option AV → Option AV → Option AV → R1) :
    kSl x lo hi mx f = .pure fun r => f ((cOpd x).run r) ((cOptO lo).run r) ((cOptO hi).run r) ((cOptO mx).run r) := rfl

theorem str_extract (s : List Nat) (l h : Nat) (hl : l ≤ h) (hh : h ≤ s.length) :
    (⟨(s.map UInt8.ofNat).toArray⟩ : ByteArray).extract l h = ⟨(((s.drop l).take (h - l)).map UInt8.ofNat).toArray⟩ := by
  apply ByteArray.ext
  apply Array.ext'
  simp [ByteArray.data_extract, List.map_take, List.map_drop]

theorem slStr_ok {t : TypeId} {x : Operand} {lo hi : Option Operand} (ho : o.op = .slice t x lo hi none) (hx : okOpd P nt x = true) (hlo : ∀ y, lo = some y → okOpd P nt y = true) (hhi : ∀ y, hi = some y → okOpd P nt y = true)
    (hu : P.underlying t = some .string) : PureOk P σ nt o (fun r => slStr ((cOpd x).run r) ((cOptO lo).run r) ((cOptO hi).run r)) := by
  intro ρ hA w r a v C e
  obtain ⟨s, hs, e⟩ := onStr_inv e (by simp)
  have h1 := C.opd hx; rw [hs] at h1
  obtain ⟨hall, hX⟩ := con_str h1
  rw [lenX_eq] at e
  obtain ⟨h, e, hh⟩ := bnd_ok C hhi e
  obtain ⟨l, e, hl⟩ := bnd_ok C hlo e
  obtain ⟨u, hu', e⟩ := onOpt_inv e (by simp)
  cases e
  rw [dropX_eq] at hu'
  obtain ⟨hle, rfl⟩ := takeX_some hu'
  have hhl : h ≤ s.length := by
    rcases hh with ⟨_, rfl⟩ | ⟨V, _, hV, _⟩
    · exact Nat.le_refl _
    · exact hV
  have hll : l ≤ h := by
    rcases hl with ⟨_, rfl⟩ | ⟨V, _, hV, _⟩
    · exact Nat.zero_le _
    · exact hV
  have hrun : (Instr.sliceBounds false s.length s.length (lo.map a.eval) (hi.map a.eval) none).run P w = .ok (l, h, s.length) w := by
    refine bounds_run (.inl ⟨rfl, rfl⟩) ?_ ?_
    · rcases hh with ⟨rfl, rfl⟩ | ⟨V, hV, _, hr⟩
      · exact .inl ⟨rfl, rfl, rfl⟩
      · exact .inr ⟨V, hV, hr⟩
    · rcases hl with ⟨rfl, rfl⟩ | ⟨V, hV, _, hr⟩
      · exact .inl ⟨rfl, rfl⟩
      · exact .inr ⟨V, hV, hr⟩
  refine ⟨.string ⟨(((s.drop l).take (h - l)).map UInt8.ofNat).toArray⟩, ?_, con_str_mk ?_⟩
  · simp only [execOp, ho]
    refine run_v ?_
    unfold Instr.sliceAt
    simp only [Sem.run_bind, run_underlying' hu, Result.andThen_ok]
    unfold Instr.slice
    rw [hX]
    simp only [Sem.run_bind, run_underlying' hu, Result.andThen_ok, Option.map_none, Option.isSome_none, Bool.false_eq_true, if_false, str_size, hrun, Sem.run_pure]
    rw [str_extract s l h hll hhl]
  · rw [List.all_eq_true] at hall ⊢
    intro u hu
    exact hall u (List.mem_of_mem_drop (List.mem_of_mem_take hu))

theorem addr_if (b k l n m : Nat) : (if m = l then some (⟨b, k, none⟩ : Addr) else (some (⟨b, k, none⟩ : Addr)).map (·.add (l * n))) = some ⟨b, if m = l then k else k + l * n, none⟩ := by
  split
  · rfl
  · rw [Option.map_some, addr_add]
theorem addr_if' (b k l n m : Nat) : (if m = l then (⟨b, k, none⟩ : Addr) else (⟨b, k, none⟩ : Addr).add (l * n)) = ⟨b, if m = l then k else k + l * n, none⟩ := by
  split
  · rfl
  · rw [addr_add]
theorem slSl_ok {t e : TypeId} {inf : TypeInfo} {x : Operand} {lo hi mx : Option Operand} (ho : o.op = .slice t x lo hi mx) (hx : okOpd P nt x = true) (hlo : ∀ y, lo = some y → okOpd P nt y = true) (hhi : ∀ y, hi = some y → okOpd P nt y = true)
    (hmx : ∀ y, mx = some y → okOpd P nt y = true) (hu : P.underlying t = some (.slice e)) (he : P.info? e = some inf) (hne : ¬ (inf.size = 0 ∨ (mx.isSome = true ∧ hi.isNone = true))) :
    PureOk P σ nt o (fun r => slSl inf.size ((cOpd x).run r) ((cOptO lo).run r) ((cOptO hi).run r) ((cOptO mx).run r)) := by
  intro ρ hA w r a v C ev
  have hsz : inf.size ≠ 0 := fun e => hne (.inl e)
  have hmh : mx = none ∨ hi ≠ none := by
    cases mx with
    | none => exact .inl rfl
    | some _ => cases hi with
      | none => exact absurd (.inr ⟨rfl, rfl⟩) hne
      | some _ => exact .inr (by simp)
  have fin : ∀ (A : Option Addr) (len cap l h m : Nat), a.eval x = .slice A len cap → (Instr.sliceBounds true len cap (lo.map a.eval) (hi.map a.eval) (mx.map a.eval)).run P w = .ok (l, h, m) w →
      (execOp a.eval o).run P w = .ok (.value (.slice (if m = l then A else A.map (·.add (l * inf.size))) (h - l) (m - l))) w := by
    intro A len cap l h m hX hrun
    simp only [execOp, ho]
    refine run_v ?_
    unfold Instr.sliceAt
    simp only [Sem.run_bind, run_underlying' hu, Result.andThen_ok]
    unfold Instr.slice
    rw [hX]
    simp only [Sem.run_bind, run_underlying' hu, Result.andThen_ok, hrun, Go.sizeOf, typeInfo, run_program, he, Sem.run_pure]
  -- the three bounds of the model out of those of the executor
  have hhi' : ∀ {h len m : Nat}, ((hi = none ∧ h = len) ∨ (∃ V, hi.map a.eval = some V ∧ h ≤ m ∧ ∀ code, (Instr.sliceBound V m code).run P w = .ok h w)) →
      ((hi.map a.eval = none ∧ mx.map a.eval = none ∧ h = len) ∨ (∃ V, hi.map a.eval = some V ∧ ∀ code, (Instr.sliceBound V m code).run P w = .ok h w)) := by
    intro h len m hh
    rcases hh with ⟨rfl, rfl⟩ | ⟨V, hV, _, hr⟩
    · rcases hmh with rfl | hc
      · exact .inl ⟨rfl, rfl, rfl⟩
      · exact absurd rfl hc
    · exact .inr ⟨V, hV, hr⟩
  have hlo' : ∀ {l h : Nat}, ((lo = none ∧ l = 0) ∨ (∃ V, lo.map a.eval = some V ∧ l ≤ h ∧ ∀ code, (Instr.sliceBound V h code).run P w = .ok l w)) →
      ((lo.map a.eval = none ∧ l = 0) ∨ (∃ V, lo.map a.eval = some V ∧ ∀ code, (Instr.sliceBound V h code).run P w = .ok l w)) := by
    intro l h hl
    rcases hl with ⟨rfl, rfl⟩ | ⟨V, hV, _, hr⟩
    · exact .inl ⟨rfl, rfl⟩
    · exact .inr ⟨V, hV, hr⟩
  have hmx' : ∀ {m cap : Nat}, ((mx = none ∧ m = cap) ∨ (∃ V, mx.map a.eval = some V ∧ m ≤ cap ∧ ∀ code, (Instr.sliceBound V cap code).run P w = .ok m w)) →
      ((mx.map a.eval = none ∧ m = cap) ∨ (∃ V, mx.map a.eval = some V ∧ ∀ code, (Instr.sliceBound V cap code).run P w = .ok m w)) := by
    intro m cap hm
    rcases hm with ⟨rfl, rfl⟩ | ⟨V, hV, _, hr⟩
    · exact .inl ⟨rfl, rfl⟩
    · exact .inr ⟨V, hV, hr⟩
  have h1 := C.opd hx
  rcases onSl_inv ev (by simp) with ⟨hv, ev⟩ | ⟨b, q, len, cap, es, hv, ev⟩
  · rw [hv] at h1
    have hX : a.eval x = .slice none 0 0 := by simpa [con] using h1.symm
    obtain ⟨m, ev, hm⟩ := bnd_ok C hmx ev
    obtain ⟨h, ev, hh⟩ := bnd_ok C hhi ev
    obtain ⟨l, ev, hl⟩ := bnd_ok C hlo ev
    cases ev
    have hm0 : m = 0 := by rcases hm with ⟨_, rfl⟩ | ⟨_, _, hm, _⟩ <;> omega
    have hh0 : h = 0 := by rcases hh with ⟨_, rfl⟩ | ⟨_, _, hh, _⟩ <;> omega
    have hl0 : l = 0 := by rcases hl with ⟨_, rfl⟩ | ⟨_, _, hl, _⟩ <;> omega
    subst hm0; subst hh0; subst hl0
    refine ⟨_, fin none 0 0 0 0 0 hX (bounds_run (hmx' hm) (hhi' hh) (hlo' hl)), rfl⟩
  · rw [hv] at h1
    obtain ⟨p, hp, hX, hfit⟩ := con_slice h1
    cases hes : Nat.beq es 0 with
    | true =>
      have hes0 := Nat.eq_of_beq_eq_true hes
      subst hes0
      rw [hes, sw_true] at ev
      obtain ⟨m, ev, hm⟩ := bnd_ok C hmx ev
      obtain ⟨h, ev, hh⟩ := bnd_ok C hhi ev
      obtain ⟨l, ev, hl⟩ := bnd_ok C hlo ev
      cases ev
      rw [if_pos rfl] at hX
      refine ⟨_, fin _ len cap l h m hX (bounds_run (hmx' hm) (hhi' hh) (hlo' hl)), ?_⟩
      rw [addr_if, con_slice_mk hp (.inl rfl), if_pos rfl, beq_dec, sw_if]
      congr 4
      by_cases hml : m = l
      · simp [hml]
      · simp [hml, Nat.add_assoc]
    | false =>
      rw [hes, sw_false] at ev
      obtain ⟨hb, ev2⟩ := sw_inv ev (by simp)
      have hb := Nat.eq_of_beq_eq_true hb
      subst hb
      rw [if_neg hsz] at hX
      have hfit := hfit.resolve_left hsz
      have hpos : 0 < inf.size := Nat.pos_of_ne_zero hsz
      have hlen : len ≤ (p.size - (p.base + q)) / inf.size := (Nat.le_div_iff_mul_le hpos).2 (by omega)
      cases mx with
      | some y =>
        have h2 := C.opd (hmx y rfl)
        change onInt ((cOpd y).run r) (fun _ n => onNat n (fun m => sw (Nat.ble m len) (bnd ((cOptO hi).run r) len m (fun h => bnd ((cOptO lo).run r) 0 h (fun l => .ok (.slice b (sw (Nat.beq m l) q (Nat.add q (Nat.mul l inf.size))) (Nat.sub h l) (Nat.sub m l) 0)))) .no) .no) .no = _ at ev2
        obtain ⟨k, n, hk, ev2⟩ := onInt_inv ev2 (by simp)
        obtain ⟨m, rfl, ev2⟩ := onNat_inv ev2 (by simp)
        obtain ⟨hml, ev2⟩ := sw_inv ev2 (by simp)
        have hml : m ≤ len := Nat.le_of_ble_eq_true hml
        rw [hk] at h2
        obtain ⟨_, hV2⟩ := con_int h2
        obtain ⟨h, ev3, hh⟩ := bnd_ok C hhi ev2
        obtain ⟨l, ev4, hl⟩ := bnd_ok C hlo ev3
        cases ev4
        refine ⟨_, fin _ len _ l h m hX (bounds_run (.inr ⟨a.eval y, rfl, fun code => bound_run hV2 (by omega)⟩) (hhi' hh) (hlo' hl)), ?_⟩
        rw [addr_if, con_slice_mk hp (.inl rfl), if_pos rfl, beq_dec, sw_if]
        congr 4
        by_cases hml : m = l
        · simp [hml]
        · simp [hml, Nat.add_assoc]
      | none =>
        rw [show (cOptO none).run r = none from rfl] at ev2
        simp only [onOpt] at ev2
        obtain ⟨h, ev3, hh⟩ := bnd_ok C hhi ev2
        obtain ⟨l, ev4, hl⟩ := bnd_ok C hlo ev3
        obtain ⟨hll, ev5⟩ := sw_inv ev4 (by simp)
        cases ev5
        have hhl : h ≤ len := by rcases hh with ⟨_, rfl⟩ | ⟨_, _, hh, _⟩ <;> omega
        have hlh : l ≤ h := by rcases hl with ⟨_, rfl⟩ | ⟨_, _, hl, _⟩ <;> omega
        rw [orB_eq, beq_dec, blt_dec, Bool.or_eq_true, decide_eq_true_eq, decide_eq_true_eq] at hll
        have hh2 : (hi = none ∧ h = len) ∨ (∃ V, hi.map a.eval = some V ∧ h ≤ (p.size - (p.base + q)) / inf.size ∧ ∀ code, (Instr.sliceBound V ((p.size - (p.base + q)) / inf.size) code).run P w = .ok h w) := by
          rcases hh with ⟨rfl, rfl⟩ | ⟨V, hV, hle, hr⟩
          · exact .inl ⟨rfl, rfl⟩
          · refine .inr ⟨V, hV, by omega, ?_⟩
            cases hi with
            | none => cases hV
            | some y =>
              have h2 := C.opd (hhi y rfl)
              have hVy : a.eval y = V := by simpa using hV
              rw [hVy] at h2
              -- the bound is a number, because the executor took it for one
              change bnd (some ((cOpd y).run r)) len len _ = _ at ev2
              unfold bnd at ev2
              change onInt ((cOpd y).run r) _ _ = _ at ev2
              obtain ⟨k, n, hk, ev2⟩ := onInt_inv ev2 (by simp)
              obtain ⟨m', rfl, ev2⟩ := onNat_inv ev2 (by simp)
              rw [hk] at h2
              obtain ⟨_, hV2⟩ := con_int h2
              have h5 : (Instr.sliceBound V len .index).run P w = .ok m' w := bound_run hV2 (by
                obtain ⟨h6, _⟩ := sw_inv ev2 (by simp)
                exact Nat.le_of_ble_eq_true h6)
              have h7 := hr .index
              rw [h5] at h7
              have h8 : m' = h := by simpa using h7
              subst h8
              exact fun code => bound_run hV2 (by omega)
        refine ⟨_, fin _ len _ l h _ hX (bounds_run (.inl ⟨rfl, rfl⟩) (hhi' hh2) (hlo' hl)), ?_⟩
        have hmul : l * inf.size + (h - l) * inf.size = h * inf.size := by rw [← Nat.add_mul]; congr 1; omega
        have hmul2 : h * inf.size ≤ len * inf.size := Nat.mul_le_mul_right _ hhl
        have hsub : (p.size - (p.base + (q + l * inf.size))) / inf.size = (p.size - (p.base + q)) / inf.size - l := by
          rw [show p.size - (p.base + (q + l * inf.size)) = (p.size - (p.base + q)) - inf.size * l from by rw [Nat.mul_comm inf.size l]; omega, Nat.sub_mul_div_of_le]
          have := Nat.mul_le_mul_right inf.size hlh
          rw [Nat.mul_comm]; omega
        show con ρ σ (.slice b (q + l * inf.size) (h - l) 0 inf.size) = _
        rw [addr_if, con_slice_mk hp (.inr (by omega)), if_neg hsz, hsub]
        congr 4
        by_cases hml : (p.size - (p.base + q)) / inf.size = l
        · have : l = 0 := by omega
          subst this; simp
        · simp [hml, Nat.add_assoc]
theorem slArr_ok {t e : TypeId} {inf : TypeInfo} {len : Nat} {x : Operand} {lo hi mx : Option Operand} (ho : o.op = .slice t x lo hi mx) (hx : okOpd P nt x = true) (hlo : ∀ y, lo = some y → okOpd P nt y = true) (hhi : ∀ y, hi = some y → okOpd P nt y = true)
    (hmx : ∀ y, mx = some y → okOpd P nt y = true) (hu : P.underlying t = some (.array len e)) (he : P.info? e = some inf) (hne : ¬ (mx.isSome = true ∧ hi.isNone = true)) :
    PureOk P σ nt o (fun r => slArr len inf.size ((cOpd x).run r) ((cOptO lo).run r) ((cOptO hi).run r) ((cOptO mx).run r)) := by
  intro ρ hA w r a v C ev
  have hmh : mx = none ∨ hi ≠ none := by
    cases mx with
    | none => exact .inl rfl
    | some _ => cases hi with
      | none => exact absurd ⟨rfl, rfl⟩ hne
      | some _ => exact .inr (by simp)
  have h1 := C.opd hx
  obtain ⟨b, q, hv, ev⟩ := onPtr_inv ev (by simp)
  rw [hv] at h1
  obtain ⟨p, hp, hX⟩ := con_ptr h1
  obtain ⟨m, ev, hm⟩ := bnd_ok C hmx ev
  obtain ⟨h, ev, hh⟩ := bnd_ok C hhi ev
  obtain ⟨l, ev, hl⟩ := bnd_ok C hlo ev
  cases ev
  have hrun : (Instr.sliceBounds false len len (lo.map a.eval) (hi.map a.eval) (mx.map a.eval)).run P w = .ok (l, h, m) w := by
    refine bounds_run ?_ ?_ ?_
    · rcases hm with ⟨rfl, rfl⟩ | ⟨V, hV, _, hr⟩
      · exact .inl ⟨rfl, rfl⟩
      · exact .inr ⟨V, hV, hr⟩
    · rcases hh with ⟨rfl, rfl⟩ | ⟨V, hV, _, hr⟩
      · rcases hmh with rfl | hc
        · exact .inl ⟨rfl, rfl, rfl⟩
        · exact absurd rfl hc
      · exact .inr ⟨V, hV, hr⟩
    · rcases hl with ⟨rfl, rfl⟩ | ⟨V, hV, _, hr⟩
      · exact .inl ⟨rfl, rfl⟩
      · exact .inr ⟨V, hV, hr⟩
  refine ⟨.slice (some ⟨p.blk, if m = l then p.base + q else p.base + q + l * inf.size, none⟩) (h - l) (m - l), ?_, ?_⟩
  · simp only [execOp, ho]
    refine run_v ?_
    unfold Instr.sliceAt
    rw [hX]
    simp only [Sem.run_bind, run_underlying' hu, Result.andThen_ok, Instr.sureAddr, Sem.run_pure, hrun, Go.sizeOf, typeInfo, run_program, he, addr_if']
  · rw [con_slice_mk hp (.inl rfl), if_pos rfl, beq_dec, sw_if]
    congr 4
    by_cases hml : m = l
    · simp [hml]
    · simp [hml, Nat.add_assoc]
end
end Go.Proofs.YteahdpjeoeeemaaGreatDoor.Ax

namespace Go.Proofs.YteahdpjeoeeemaaGreatDoor.Ax
set_option linter.unusedVariables false
set_option linter.unusedSimpArgs false
set_option linter.unnecessarySimpa false

section
variable {P : Program} {σ : Nat → ByteArray} {nt : Nat} {o : Oper}

theorem con_nili {ρ : Rho} {x : AV} (h : con ρ σ x = some .nilIface) : x = .nili := by
  cases x with
  | nili => rfl
  | bad => simp [con] at h
  | mark _ => simp [con] at h
  | bool _ => simp [con] at h
  | int k n => have := con_int h; simp at this
  | str s => have := con_str h; simp at this
  | atom _ => simp [con] at h
  | nilp => simp [con] at h
  | ptr b o => obtain ⟨p, _, hp⟩ := con_ptr h; cases hp
  | nils => simp [con] at h
  | slice b o l c e => obtain ⟨p, _, hp, _⟩ := con_slice h; cases hp
  | nilm => simp [con] at h
  | map b => obtain ⟨p, _, hp⟩ := con_map h; cases hp
  | nilf => simp [con] at h
  | func f l m => obtain ⟨_, _, _, _, hp⟩ := con_func h; cases hp
  | iface t v => obtain ⟨_, _, hp⟩ := con_iface h; cases hp
  | agg l => obtain ⟨_, _, _, hp⟩ := con_agg h; cases hp
  | tup l => obtain ⟨_, _, hp⟩ := con_tup h; cases hp
  | yld l =>
    simp only [con] at h
    cases hb : ρ l <;> rw [hb] at h <;> cases h
theorem con_aggv {ρ : Rho} {x : AV} {cs : Array Value} (h : con ρ σ x = some (.agg cs)) : ∃ l, x = .agg l := by
  cases x with
  | agg l => exact ⟨l, rfl⟩
  | bad => simp [con] at h
  | mark _ => simp [con] at h
  | bool _ => simp [con] at h
  | int k n => have := con_int h; simp at this
  | str s => have := con_str h; simp at this
  | atom _ => simp [con] at h
  | nilp => simp [con] at h
  | ptr b o => obtain ⟨p, _, hp⟩ := con_ptr h; cases hp
  | nils => simp [con] at h
  | slice b o l c e => obtain ⟨p, _, hp, _⟩ := con_slice h; cases hp
  | nilm => simp [con] at h
  | map b => obtain ⟨p, _, hp⟩ := con_map h; cases hp
  | nilf => simp [con] at h
  | func f l m => obtain ⟨_, _, _, _, hp⟩ := con_func h; cases hp
  | nili => simp [con] at h
  | iface t v => obtain ⟨_, _, hp⟩ := con_iface h; cases hp
  | tup l => obtain ⟨_, _, hp⟩ := con_tup h; cases hp
  | yld l =>
    simp only [con] at h
    cases hb : ρ l <;> rw [hb] at h <;> cases h

/-- the guard of '==' lets pass -/
theorem guard_run {op : BinOp} {t : TypeId} {x y : Operand} {X Y : Value} {w : World}
    (h : (op ≠ .eql ∧ op ≠ .neq) ∨ ((∀ cs, X ≠ .agg cs) ∧ (X = .nilIface → (isConstO x || isConstO y) = true))) : (eqGuard op t x y X Y).run P w = .ok () w := by
  unfold eqGuard
  by_cases hop : op = .eql ∨ op = .neq
  · obtain ⟨h1, h2⟩ := h.resolve_left (fun hc => hop.elim hc.1 hc.2)
    have e : (match op with | .eql | .neq => true | _ => false) = true := by rcases hop with rfl | rfl <;> rfl
    rcases hop with rfl | rfl <;>
    · cases X <;> first
        | rfl
        | (exact absurd rfl (h1 _))
        | (cases Y <;> first
            | rfl
            | (have h3 := h2 rfl
               cases x <;> cases y <;> first | rfl | (simp [isConstO] at h3)))
  · have h1 : op ≠ .eql := fun e => hop (.inl e)
    have h2 : op ≠ .neq := fun e => hop (.inr e)
    cases op <;> first | rfl | (exact absurd rfl h1) | (exact absurd rfl h2)

theorem guard_agg {op : BinOp} {t : TypeId} {x y : Operand} {xs : Array Value} {Y : Value} {w : World} (hm : P.eqGuardType P.depth t = false) : (eqGuard op t x y (.agg xs) Y).run P w = .ok () w := by
  cases Y <;> first
    | exact run_eqGuard_agg _ op t x y _ _ hm
    | (cases op <;> rfl)
theorem sort8_guard {t : TypeId} (h : sortOf P t = 8) : P.eqGuardType P.depth t = false := by
  unfold sortOf at h
  cases hu : P.underlying t with
  | none => rw [hu] at h; cases h
  | some d =>
    rw [hu] at h
    cases d <;> first
      | (simp only [] at h; cases h; done)
      | (rename_i fs
         simp only at h
         by_cases h2 : twoStr P t fs = true
         · unfold twoStr at h2
           split at h2
           · simp only [Bool.and_eq_true, Bool.not_eq_true'] at h2
             exact h2.2
           · cases h2
         · rw [if_neg h2] at h; cases h)
      | (rename_i e
         simp only at h
         cases hi : P.info? e with
         | none => rw [hi] at h; cases h
         | some i =>
           rw [hi] at h
           by_cases hs : i.size = 0
           · simp [hs] at h
           · simp [hs] at h)
theorem int2_shape {x y v : AV} {f : Nat → Int → Int → R1} {g : List Nat → List Nat → R1} (h : int2 x y f g = .ok v) : (∀ l, x ≠ .agg l) ∧ x ≠ .nili := by
  rcases onNum_inv h (by simp) with ⟨k, a, rfl, _⟩ | ⟨s, rfl, _⟩ <;> exact ⟨by simp, by simp⟩
theorem eqF_shape {p c : Bool} {t : TypeId} {x y v : AV} (h : eqF P p t c x y = .ok v) : (sortOf P t = 8 ∨ ∀ l, x ≠ .agg l) ∧ (x = .nili → c = true) := by
  unfold eqF at h
  generalize sortOf P t = k at h ⊢
  match k, h with
  | 0, h => cases h
  | 1, h => have := int2_shape (f := fun _ a b => one (eqI a b) p) (g := fun s t => one (eqX s t) p) h; exact ⟨.inr this.1, fun e => absurd e this.2⟩
  | 2, h => change eqBool p x y = _ at h; obtain ⟨a, rfl, _⟩ := onBool_inv h (by simp); exact ⟨by simp, by simp⟩
  | 3, h => change eqPtr p x y = _ at h; rcases onPtrN_inv h (by simp) with ⟨rfl, _⟩ | ⟨b, o, rfl, _⟩ <;> exact ⟨by simp, by simp⟩
  | 4, h => change eqSl p x y = _ at h; rcases onSl_inv h (by simp) with ⟨rfl, _⟩ | ⟨b, o, n, cc, e1, rfl, _⟩ <;> exact ⟨by simp, by simp⟩
  | 5, h => change eqMap p x y = _ at h; rcases onMapN_inv h (by simp) with ⟨rfl, _⟩ | ⟨b, rfl, _⟩ <;> exact ⟨by simp, by simp⟩
  | 6, h => change eqFunc p x y = _ at h; rcases onFuncN_inv h (by simp) with ⟨rfl, _⟩ | ⟨b, l, m, rfl, _⟩ <;> exact ⟨by simp, by simp⟩
  | 7, h =>
    cases c with
    | true =>
      change eqIf p x y = _ at h
      rcases onIf_inv h (by simp) with ⟨rfl, _⟩ | ⟨b, l, rfl, _⟩ <;> exact ⟨by simp, by simp⟩
    | false => cases h
  | 8, h => change eqSt p x y = _ at h; obtain ⟨l, rfl, _⟩ := onAgg_inv h (by simp); exact ⟨.inl rfl, by simp⟩
  | k + 9, h => cases h
theorem eqF_ok {p c : Bool} {t : TypeId} : BinOk P (bop p) t (eqF P p t c) := by
  unfold eqF sortOf
  cases hu : P.underlying t with
  | none => intro ρ σ w x y v X Y h; cases h
  | some d =>
    cases d <;> first
      | (exact eqNum_ok p)
      | (exact eqBool_ok p hu)
      | (exact eqSl_ok p hu)
      | (exact eqMap_ok p hu)
      | (exact eqFunc_ok p hu)
      | (rename_i ms
         intro ρ σ w x y v X Y h hx hy
         cases c with
         | true => exact eqIf_ok p hu ρ σ w x y v X Y h hx hy
         | false => cases h)
      | (rename_i fs
         by_cases h2 : twoStr P t fs = true
         · simp only [h2, if_true]
           exact eqSt_ok p hu h2
         · intro ρ σ w x y v X Y h
           simp only [h2, if_false] at h
           cases h)
      | (rename_i e
         cases hi : P.info? e with
         | none => intro ρ σ w x y v X Y h; simp only [hi] at h; cases h
         | some i =>
           by_cases hs : i.size = 0
           · intro ρ σ w x y v X Y h; simp only [hi, hs, if_true] at h; cases h
           · simp only [hi, hs, if_false]
             exact eqPtr_ok p hu hi hs)
      | (intro ρ σ w x y v X Y h; cases h)
theorem binF_ok {op : BinOp} {t : TypeId} {c : Bool} : BinOk P op t (binF P op t c) := by
  cases op <;> first
    | exact add_ok | exact sub_ok | exact mul_ok | exact quo_ok | exact rem_ok | exact and_ok | exact or_ok | exact xor_ok | exact shl_ok | exact shr_ok
    | exact lss_ok | exact leq_ok | exact gtr_ok | exact geq_ok
    | exact eqF_ok (p := true) | exact eqF_ok (p := false)
    | (intro ρ σ w x y v X Y h; cases h)
theorem binOp_ok {op : BinOp} {t yt : TypeId} {x y : Operand} (ho : o.op = .binOp op t x y yt) (hx : okOpd P nt x = true) (hy : okOpd P nt y = true) :
    PureOk P σ nt o (fun r => binF P op t (isConstO x || isConstO y) ((cOpd x).run r) ((cOpd y).run r)) := by
  intro ρ h w r a v C e
  obtain ⟨Z, hrun, hZ⟩ := binF_ok ρ σ w _ _ v _ _ e (C.opd hx) (C.opd hy)
  refine ⟨Z, ?_, hZ⟩
  simp only [execOp, ho]
  refine run_v ?_
  have hg : (eqGuard op t x y (a.eval x) (a.eval y)).run P w = .ok () w := by
    by_cases hop : op = .eql ∨ op = .neq
    · have hs : (sortOf P t = 8 ∨ ∀ l, (cOpd x).run r ≠ .agg l) ∧ ((cOpd x).run r = .nili → (isConstO x || isConstO y) = true) := by
        rcases hop with rfl | rfl
        · exact eqF_shape (p := true) e
        · exact eqF_shape (p := false) e
      have h1 := C.opd hx
      by_cases hagg : ∃ cs, a.eval x = .agg cs
      · obtain ⟨cs, hc⟩ := hagg
        rw [hc] at h1 ⊢
        obtain ⟨l, hl⟩ := con_aggv h1
        exact guard_agg (sort8_guard (hs.1.resolve_right fun hn => hn l hl))
      · refine guard_run (.inr ⟨fun cs hc => hagg ⟨cs, hc⟩, fun hc => ?_⟩)
        rw [hc] at h1
        exact hs.2 (con_nili h1)
    · exact guard_run (.inl ⟨fun e => hop (.inl e), fun e => hop (.inr e)⟩)
  simp only [Sem.run_bind, hg, Result.andThen_ok, hrun]
theorem unOp_ok {op : UnOp} {t : TypeId} {x : Operand} (ho : o.op = .unOp op t x) (hx : okOpd P nt x = true) : PureOk P σ nt o (fun r => unF op ((cOpd x).run r)) := by
  intro ρ h w r a v C e
  have h1 := C.opd hx
  cases op <;> simp only [unF, reduceCtorEq] at e
  all_goals first
    | (obtain ⟨k, n, hk, e⟩ := onInt_inv e (by simp)
       cases e
       rw [hk] at h1
       obtain ⟨hk8, hX⟩ := con_int h1
       refine ⟨_, ?_, con_int_mk hk8 _⟩
       simp only [execOp, ho]
       refine run_v ?_
       rw [hX]
       simp only [Op.unary, Op.intArith, Op.intBits, Sem.run_pure, wrapI_eq, subI_eq, ofNat_zero_eq])
    | (obtain ⟨b, hb, e⟩ := onBool_inv e (by simp)
       cases e
       rw [hb] at h1
       have h1 := con_bool h1
       refine ⟨.bool (!b), ?_, by rw [notB_eq]; rfl⟩
       simp only [execOp, ho]
       refine run_v ?_
       rw [h1]
       rfl)
theorem max_ok {p : Bool} {x y : Operand} {ts : Array TypeId} (hx : okOpd P nt x = true) (hy : okOpd P nt y = true)
    (ho : o.op = .call { callee := .builtin (if p then .max else .min), args := #[x, y], argTypes := ts }) :
    PureOk P σ nt o (fun r => maxV p ((cOpd x).run r) ((cOpd y).run r)) := by
  intro ρ h w r a v C e
  obtain ⟨k, m, hk, e⟩ := onInt_inv e (by simp)
  obtain ⟨k', n, hk', e⟩ := onInt_inv e (by simp)
  cases e
  have h1 := C.opd hx; rw [hk] at h1
  have h2 := C.opd hy; rw [hk'] at h2
  obtain ⟨hk8, hX⟩ := con_int h1
  obtain ⟨_, hY⟩ := con_int h2
  refine ⟨.int (kindOf k) (if p then (if n > m then n else m) else (if n < m then n else m)), ?_, ?_⟩
  · simp only [execOp, ho, resolve]
    cases p <;> simp [invoke, builtin, Builtin.max_, Builtin.min_, Builtin.max2, Builtin.min2, hX, hY]
  · rw [con_int_mk hk8]
    congr 2
    cases p <;> simp [sw_if, ltI_eq]
theorem len_run {t : TypeId} {x : Operand} {ts : Array TypeId} {a : Act} {w : World} {Z : Value} (ho : o.op = .call { callee := .builtin .len, args := #[x], argTypes := ts })
    (h : (Builtin.len_ ts o.type #[a.eval x]).run P w = .ok Z w) : (execOp a.eval o).run P w = .ok (.value Z) w := by
  simp only [execOp, ho, resolve]
  simp [invoke, builtin, h]
theorem len_str_ok {t : TypeId} {x : Operand} {ts : Array TypeId} (ho : o.op = .call { callee := .builtin .len, args := #[x], argTypes := ts }) (ht : ts[0]? = some t) (hx : okOpd P nt x = true) (hu : P.underlying t = some .string) :
    PureOk P σ nt o (fun r => onStr ((cOpd x).run r) (fun s => .ok (.int 3 (Int.ofNat (lenX s)))) .no) := by
  intro ρ h w r a v C e
  obtain ⟨s, hs, e⟩ := onStr_inv e (by simp)
  cases e
  have h1 := C.opd hx; rw [hs] at h1
  obtain ⟨_, hX⟩ := con_str h1
  refine ⟨goInt s.length, len_run (t := t) ho ?_, by rw [lenX_eq]; exact con_int_mk (by decide) _⟩
  simp [Builtin.len_, ht, run_underlying' hu, hX, str_size]
theorem len_sl_ok {t e : TypeId} {x : Operand} {ts : Array TypeId} (ho : o.op = .call { callee := .builtin .len, args := #[x], argTypes := ts }) (ht : ts[0]? = some t) (hx : okOpd P nt x = true) (hu : P.underlying t = some (.slice e)) :
    PureOk P σ nt o (fun r => onSl ((cOpd x).run r) (.ok (.int 3 (Int.ofNat 0))) (fun _ _ n _ _ => .ok (.int 3 (Int.ofNat n))) .no) := by
  intro ρ h w r a v C ev
  have h1 := C.opd hx
  rcases onSl_inv ev (by simp) with ⟨hv, ev⟩ | ⟨b, q, n, c, es, hv, ev⟩
  · cases ev
    rw [hv] at h1
    have hX : a.eval x = .slice none 0 0 := by simpa [con] using h1.symm
    refine ⟨goInt 0, len_run (t := t) ho ?_, con_int_mk (by decide) _⟩
    simp [Builtin.len_, ht, run_underlying' hu, hX]
  · cases ev
    rw [hv] at h1
    obtain ⟨p, _, hX, _⟩ := con_slice h1
    refine ⟨goInt n, len_run (t := t) ho ?_, con_int_mk (by decide) _⟩
    simp [Builtin.len_, ht, run_underlying' hu, hX]
theorem len_arr_ok {t e : TypeId} {n : Nat} {x : Operand} {ts : Array TypeId} (ho : o.op = .call { callee := .builtin .len, args := #[x], argTypes := ts }) (ht : ts[0]? = some t) (hu : P.underlying t = some (.array n e)) :
    PureOk P σ nt o (fun _ => .ok (.int 3 (Int.ofNat n))) := by
  intro ρ h w r a v C ev
  cases ev
  refine ⟨goInt n, len_run (t := t) ho ?_, con_int_mk (by decide) _⟩
  simp [Builtin.len_, ht, run_underlying' hu]
theorem conv_int_ok {s d : TypeId} {x : Operand} {ks k : IntKind} (ho : o.op = .convert s d x) (hx : okOpd P nt x = true) (hs : P.underlying s = some (.int ks)) (hd : P.underlying d = some (.int k)) :
    PureOk P σ nt o (fun r => onInt ((cOpd x).run r) (fun _ n => .ok (.int (kcode k) (wrapI (kcode k) n))) .no) := by
  intro ρ h w r a v C ev
  obtain ⟨k', n, hk, ev⟩ := onInt_inv ev (by simp)
  cases ev
  have h1 := C.opd hx; rw [hk] at h1
  obtain ⟨_, hX⟩ := con_int h1
  refine ⟨.int k (k.wrap n), ?_, by rw [con_int_mk (by cases k <;> decide), wrapI_eq, kindOf_kcode]⟩
  simp only [execOp, ho]
  refine run_v ?_
  unfold convert
  simp only [Sem.run_bind, run_underlying' hs, run_underlying' hd, Result.andThen_ok, hX]
  rfl
theorem conv_rune_ok {s d : TypeId} {x : Operand} {ks : IntKind} (ho : o.op = .convert s d x) (hx : okOpd P nt x = true) (hs : P.underlying s = some (.int ks)) (hd : P.underlying d = some .string) :
    PureOk P σ nt o (fun r => onInt ((cOpd x).run r) (fun _ n => onNat n (fun m => sw (Nat.blt m 128) (.ok (.str [m])) .no) .no) .no) := by
  intro ρ h w r a v C ev
  obtain ⟨k', n, hk, ev⟩ := onInt_inv ev (by simp)
  obtain ⟨m, rfl, ev⟩ := onNat_inv ev (by simp)
  obtain ⟨hlt, ev⟩ := sw_inv ev (by simp)
  cases ev
  rw [blt_dec, decide_eq_true_eq] at hlt
  have h1 := C.opd hx; rw [hk] at h1
  obtain ⟨_, hX⟩ := con_int h1
  refine ⟨.string ⟨([m].map UInt8.ofNat).toArray⟩, ?_, con_str_mk (by simp; omega)⟩
  simp only [execOp, ho]
  refine run_v ?_
  unfold convert
  simp only [Sem.run_bind, run_underlying' hs, run_underlying' hd, Result.andThen_ok, hX, Conv.intToString, Sem.run_pure]
  refine congrArg (fun b => Result.ok (Value.string b) w) ?_
  unfold Utf8.encode
  have hv : Utf8.valid (m : Int) = true := by
    unfold Utf8.valid
    simp
    omega
  rw [hv]
  simp only [if_true, Int.toNat_natCast]
  rw [if_pos (by omega)]
  rfl
theorem conv_str_ok {s d : TypeId} {x : Operand} (ho : o.op = .convert s d x) (hx : okOpd P nt x = true) (hs : P.underlying s = some .string) (hd : P.underlying d = some .string) :
    PureOk P σ nt o (fun r => onStr ((cOpd x).run r) (fun _ => .ok ((cOpd x).run r)) .no) := by
  intro ρ h w r a v C ev
  obtain ⟨s', hk, ev⟩ := onStr_inv ev (by simp)
  cases ev
  have h1 := C.opd hx
  have h2 := h1; rw [hk] at h2
  obtain ⟨_, hX⟩ := con_str h2
  refine ⟨a.eval x, ?_, h1⟩
  simp only [execOp, ho]
  refine run_v ?_
  unfold convert
  simp only [Sem.run_bind, run_underlying' hs, run_underlying' hd, Result.andThen_ok, hX]
  rfl
theorem sliceData_ok {x : Operand} {ts : Array TypeId} (ho : o.op = .call { callee := .builtin .unsafeSliceData, args := #[x], argTypes := ts }) (hx : okOpd P nt x = true) :
    PureOk P σ nt o (fun r => sliceDataV ((cOpd x).run r)) := by
  intro ρ h w r a v C ev
  have h1 := C.opd hx
  rcases onSl_inv ev (by simp) with ⟨hv, ev⟩ | ⟨b, q, n, c, es, hv, ev⟩
  · cases ev
    rw [hv] at h1
    have hX : a.eval x = .slice none 0 0 := by simpa [con] using h1.symm
    refine ⟨.pointer none, ?_, rfl⟩
    have hr : (Builtin.unsafeSliceData_ ts o.type #[a.eval x]).run P w = .ok (.pointer none) w := by rw [hX]; rfl
    simp only [execOp, ho, resolve]
    simp [invoke, builtin, hr]
  · obtain ⟨hc, ev⟩ := sw_inv ev (by simp)
    cases ev
    rw [hv] at h1
    obtain ⟨p, hp, hX, hfit⟩ := con_slice h1
    refine ⟨_, ?_, con_ptr_mk hp⟩
    simp only [orB_eq, andB_eq, blt_dec, beq_dec] at hc
    simp only [Bool.or_eq_true, Bool.and_eq_true, decide_eq_true_eq] at hc
    have hne : (if es = 0 then c else (p.size - (p.base + q)) / es) ≠ 0 := by
      by_cases he : es = 0
      · rw [if_pos he]
        rcases hc with hc | hc
        · exact absurd he (Nat.pos_iff_ne_zero.1 hc.1)
        · exact Nat.pos_iff_ne_zero.1 hc.2
      · rw [if_neg he]
        have hfit := hfit.resolve_left he
        rcases hc with hc | hc
        · have hpos : 0 < es := by omega
          have : 1 ≤ (p.size - (p.base + q)) / es := (Nat.le_div_iff_mul_le hpos).2 (by
            have := Nat.mul_le_mul_right es hc.2
            omega)
          omega
        · exact absurd hc.1 he
    have hr : (Builtin.unsafeSliceData_ ts o.type #[a.eval x]).run P w = .ok (.pointer (some ⟨p.blk, p.base + q, none⟩)) w := by
      rw [hX]
      generalize (if es = 0 then c else (p.size - (p.base + q)) / es) = cc at hne
      have e1 : Builtin.unsafeSliceData_ ts o.type #[.slice (some ⟨p.blk, p.base + q, none⟩) n cc] = (if cc ≠ 0 then pure (.pointer (some ⟨p.blk, p.base + q, none⟩)) else do
          if (← viewAt (⟨p.blk, p.base + q, none⟩ : Addr).block).isSome then pure (.pointer (some ⟨p.blk, p.base + q, none⟩)) else pure (.pointer (some ⟨← newObj (.view ⟨p.blk, p.base + q, none⟩ (← elemOf o.type)), 0, none⟩))) := rfl
      rw [e1, if_pos hne]; rfl
    simp only [execOp, ho, resolve]
    simp [invoke, builtin, hr]
end
end Go.Proofs.YteahdpjeoeeemaaGreatDoor.Ax

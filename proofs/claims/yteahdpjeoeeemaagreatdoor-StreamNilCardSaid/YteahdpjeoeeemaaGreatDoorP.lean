/- StreamNil: for every text the call returns true, and turns nothing that was there; where the listed tables stand as the row lists them. -/
import Derived.Test.YteahdpjeoeeemaaGreatDoorSd
import Derived.Test.YteahdpjeoeeemaaGreatDoorW
import Derived.Lib.LaidTab
import Derived.ProofKit
import Derived.Below
import Derived.ChangeMaps5
import Derived.OpenShut
import Derived.Stop.Joined
namespace Go.Proofs.YteahdpjeoeeemaaGreatDoor
open Go Go.ChangeShapes Go.WideShapes Go.ChangeAt Go.WideMaps Go.WideElems Go.RowKit
open Go.Proofs.YteahdpjeoeeemaaGreatDoor.Ax (AV CL conL)
set_option maxRecDepth 1000000
set_option linter.unusedVariables false
theorem own : ownKnob Tryz.prog.godebug = none := by kernel_rfl
theorem gAsc : Tryz.prog.globalNamed "strings.asciiSpace" = some 0 := by kernel_rfl
theorem tAsc : (Tryz.prog.globals[0]?).map (·.type) = some 421 := by kernel_rfl
noncomputable def zsAsc : List Int := TT.asc.l.map fun | .int _ z => z | _ => 0
theorem dAsc : (Rows.laid_strings_asciiSpace : DataW Unit) = Lib.tabData .u8 zsAsc := by kernel_rfl
theorem eAsc : TT.asc.e = 421 := by kernel_rfl
theorem nAsc : (0 : Nat) < Tryz.prog.globals.size := by
  rw [show Tryz.prog.globals.size = 12 by kernel_rfl]
  decide
theorem zero0 : (((begin Tryz.prog (fun _ _ => 0) default).world.heap[0]?).bind Obj.row?).map (·.2) = some 421 := by kernel_rfl
theorem cAsc (σ : Nat → ByteArray) (ρ : Ax.Rho) : conL ρ σ TT.asc.l = some (zsAsc.map fun z => Value.int .u8 z) := by kernel_rfl
theorem mem_asc : (("strings.asciiSpace", Rows.laid_strings_asciiSpace) : String × DataW Unit) ∈ Rows.streamNilRow.laid := by
  show _ ∈ [_, _, _, _, _, _, _, _, _, _]
  simp

/-- what the row's condition and the shape of the memory give the call -/
theorem of_laid {W : World} (hs : W.ShapedOpen Tryz.prog) (h : laidMetH Tryz.prog Rows.streamNilRow.laid W.memory) : ∃ c fz, W.heap[0]? = some (.cells c TT.asc.e fz) ∧ c.toList = zsAsc.map fun z => Value.int .u8 z := by
  rw [MakeChecks.laidMetH_plain _ _ _ (by kernel_rfl)] at h
  obtain ⟨ps, hl, _⟩ := h
  obtain ⟨g, t, cs, fuel, p, hg, ht, hv, hd⟩ := laid_mem hl _ mem_asc
  obtain rfl := Option.some.inj (gAsc.symm.trans hg)
  obtain rfl := Option.some.inj (tAsc.symm.trans ht)
  rw [show (("strings.asciiSpace", Rows.laid_strings_asciiSpace) : String × DataW Unit).2 = Lib.tabData .u8 zsAsc from dAsc] at hd
  have hc := Lib.cells_of_tab Tryz.underlying421 Tryz.underlying5 (by kernel_rfl) (by kernel_rfl) hd
  cases hz : ((begin Tryz.prog (fun _ _ => 0) default).world.heap[0]?).bind Obj.row? with
  | none => have := zero0; rw [hz] at this; cases this
  | some x =>
    obtain ⟨zero, t⟩ := x
    have e := zero0
    rw [hz] at e
    obtain rfl : t = 421 := Option.some.inj e
    obtain ⟨cs', hh, _, _⟩ := hs.1 0 zero 421 nAsc hz
    have hv' : W.memory.var? Tryz.prog "strings.asciiSpace" = some cs' := by
      unfold World.var?
      rw [gAsc]
      have hm : W.memory.heap[0]? = some (.cells cs' 421 (0, 0)) := hh
      simp only [Option.bind_some, hm]
    obtain rfl := Option.some.inj (hv'.symm.trans hv)
    exact ⟨cs', (0, 0), by rw [eAsc]; exact hh, hc⟩

theorem kept_of_grown {W W' : World} (h : W.grownBy W' none) (may : MemPlace → Prop) : W.keptBut W' may :=
  Below.frame ((Below.refl W.heap.size W).grown h (Nat.le_refl _) (fun k e => by cases e)) may

theorem post_none {H : Type} {enc : TypeId × Value → H} {P : Program} {f : Func} {s : ChangeSpec} {apart fresh handsOn again : Bool} {W W' : World} {args : Array Value} {v : Value} {ds gs : List (DataW H)}
    (hW : DataW.Whole enc P f.params.toList s.vars apart W args.toList ds gs [])
    (hres : ∀ (b : Nat) (sp : Nat → Bool) (hd : Bool), DataW.TrodAll enc P W' b sp hd f.resultTypes.toList (v.resultList f.resultTypes.size) (s.fn H (ds ++ gs)).results [])
    (hargs : ∀ sp : Nat → Bool, DataW.TrodAll enc P W' 0 sp true f.params.toList args.toList (s.fn H (ds ++ gs)).args [])
    (hvars : ∀ sp : Nat → Bool, DataW.TrodVars enc P W' sp s.vars (s.fn H (ds ++ gs)).vars [])
    (hk : ∀ may, W.keptBut W' may)
    (hok : ∀ (j : Nat) (t : TypeId) (r : Value), f.resultTypes[j]? = some t → (v.resultList f.resultTypes.size)[j]? = some r → Value.okWide P W' .any 0 t r) :
    s.post enc P f apart fresh handsOn again W args v W' := by
  refine ⟨ds, gs, [], [], [], [], hW, hres _ _ _, hargs _, hvars _, hk _, fun _ => ?_⟩
  refine ⟨hok, _, _, ([] ++ []) ++ [], ⟨[] ++ [], [], trodAll_append (hargs _) (hres _ _ _), hvars _, rfl, ?_, ?_⟩, ?_⟩
  · intro b off hp; cases hp
  · intro _; exact List.nodup_nil
  · intro p hp; cases hp

theorem lifted (os : Os) (started : os.Started) (H : Type) (enc : TypeId × Value → H) :
    ReturnsInHanded {} Tryz.checked os 3 .any (fun w args => (Rows.streamNilSpec.pre enc Tryz.prog Tryz.f3 [] false w args ∧ laidMetH Tryz.prog Rows.streamNilRow.laid w) ∧ sizedMet enc Tryz.prog Tryz.f3 (OpenSpec.ofChange Rows.streamNilSpec) false w args)
      (Rows.streamNilSpec.post enc Tryz.prog Tryz.f3 false true false false) := by
  refine returnsInHanded_of_calls (C := Tryz.checked) own started (by kernel_rfl)
    (ChangeSpec.witness_shaped (enc := enc) (C := Tryz.checked) (os := os) (X := fun w _ => laidMetH Tryz.prog Rows.streamNilRow.laid w) false (w0 os) #[.string .empty] 8 rfl (World.shaped_of_RefB (w_vars os) (w_rest os)) (w_ok os) (w_pre os enc) (w_sz os enc) (w_met os)) ?_
  intro w tape i _ hsh _ hok hpre _
  obtain ⟨_, _, _, fn', hfn', _, _, _, _, hval0⟩ := hok
  have e : fn' = Tryz.f3 := Option.some.inj (hfn'.symm.trans Tryz.func3)
  subst e
  obtain ⟨⟨⟨ds, gs, before, hw, hc⟩, hx⟩, hz⟩ := hpre
  have hw' := DataW.Whole.of_heap (w' := w.forCall tape i) (by rfl) hw
  have hW := hw'
  obtain ⟨p, q, hA0, hV, rfl, hfz, hnd⟩ := hw'
  have hval : ∀ (j : Nat) t v, Tryz.f3.params[j]? = some t → i.args[j]? = some v → Value.okWide Tryz.prog (w.forCall tape i) .any w.heap.size t v := hval0
  have hA : DataW.TrodAll enc Tryz.prog (w.forCall tape i) 0 (fun _ => true) true Tryz.f3.params.toList i.args.toList ds p := hA0
  rw [Tryz.params3] at hA hval
  obtain ⟨v0, d0, hargs, rfl, h0⟩ := trodAll_one hA
  obtain ⟨rfl, rfl⟩ := trodVars_none hV
  rw [hargs] at hval hW
  obtain ⟨s0, rfl, rfl, rfl, hs0⟩ := ChangeMaps.open_string Tryz.underlying9 (hval 0 9 v0 rfl rfl) h0
  have hL : laidMetH Tryz.prog Rows.streamNilRow.laid (w.forCall tape i).memory := hx
  obtain ⟨c, fz, hh, hcl⟩ := of_laid hsh hL
  have call := TT.law_calls (W := w.forCall tape i) (c := c) (fz := fz) [s0] rfl hh (fun ρ => by rw [hcl]; exact cAsc _ ρ)
  rw [hargs]
  refine Calls.mono call fun e W' ⟨he, hg⟩ => ?_
  subst he
  refine ChangeSpec.post_blind ?_
  exact post_none hW (fun _ _ _ => trodAll_mk1 (shut_bool Tryz.underlying4 _)) (fun sp => trodAll_mk1 (ChangeMaps.shut_string Tryz.underlying9 hs0)) (fun _ => rfl) (kept_of_grown hg) (ok_one (by kernel_rfl) rfl (okWide_bool_mk Tryz.underlying4 _))
end Go.Proofs.YteahdpjeoeeemaaGreatDoor

/- The row's tie: the listed variables hold what the program's own door lays. -/
import Derived.Test.YteahdpjeoeeemaaGreatDoorV
import Derived.Test.YteahdpjeoeeemaaGreatDoorD
import Derived.Test.YteahdpjeoeeemaaGreatDoorK
namespace Go.Proofs.YteahdpjeoeeemaaGreatDoor
open Go Go.Proofs.YteahdpjeoeeemaaGreatDoor.Ax
set_option maxRecDepth 1000000
set_option linter.unusedVariables false
theorem dl0 : DataW.LaidVars Tryz.prog (memW dL) [("unicode/utf8.acceptRanges", Rows.laid_unicode_utf8_acceptRanges)] (MemPlace.row ⟨4, 0, none⟩ 32) := laid_one (by kernel_rfl)
theorem dlr0 : laidRowsB Tryz.prog (memW dL) (MemPlace.row ⟨4, 0, none⟩ 32) = true := by kernel_rfl
theorem dl1 : DataW.LaidVars Tryz.prog (memW dL) [("internal/strconv.uint64pow10", Rows.laid_internal_strconv_uint64pow10)] (MemPlace.row ⟨7, 0, none⟩ 20) := laid_one (by kernel_rfl)
theorem dlr1 : laidRowsB Tryz.prog (memW dL) (MemPlace.row ⟨7, 0, none⟩ 20) = true := by kernel_rfl
theorem dl2 : DataW.LaidVars Tryz.prog (memW dL) [("math/bits.deBruijn32tab", Rows.laid_math_bits_deBruijn32tab)] (MemPlace.row ⟨9, 0, none⟩ 32) := laid_one (by kernel_rfl)
theorem dlr2 : laidRowsB Tryz.prog (memW dL) (MemPlace.row ⟨9, 0, none⟩ 32) = true := by kernel_rfl
theorem dl3 : DataW.LaidVars Tryz.prog (memW dL) [("math/bits.deBruijn64tab", Rows.laid_math_bits_deBruijn64tab)] (MemPlace.row ⟨10, 0, none⟩ 64) := laid_one (by kernel_rfl)
theorem dlr3 : laidRowsB Tryz.prog (memW dL) (MemPlace.row ⟨10, 0, none⟩ 64) = true := by kernel_rfl
theorem dl4 : DataW.LaidVars Tryz.prog (memW dL) [("strconv.ErrSyntax", Rows.laid_strconv_ErrSyntax)] (MemPlace.row ⟨5, 0, none⟩ 1 ++ (MemPlace.row ⟨18, 0, none⟩ 1)) := laid_one (by kernel_rfl)
theorem dlr4 : laidRowsB Tryz.prog (memW dL) (MemPlace.row ⟨5, 0, none⟩ 1 ++ (MemPlace.row ⟨18, 0, none⟩ 1)) = true := by kernel_rfl
theorem dl5 : DataW.LaidVars Tryz.prog (memW dL) [("strconv.ErrRange", Rows.laid_strconv_ErrRange)] (MemPlace.row ⟨6, 0, none⟩ 1 ++ (MemPlace.row ⟨17, 0, none⟩ 1)) := laid_one (by kernel_rfl)
theorem dlr5 : laidRowsB Tryz.prog (memW dL) (MemPlace.row ⟨6, 0, none⟩ 1 ++ (MemPlace.row ⟨17, 0, none⟩ 1)) = true := by kernel_rfl
theorem dl6 : DataW.LaidVars Tryz.prog (memW dL) [("strings.asciiSpace", Rows.laid_strings_asciiSpace)] (MemPlace.row ⟨0, 0, none⟩ 256) := laid_one (by kernel_rfl)
theorem dlr6 : laidRowsB Tryz.prog (memW dL) (MemPlace.row ⟨0, 0, none⟩ 256) = true := by kernel_rfl
theorem dl7 : DataW.LaidVars Tryz.prog (memW dL) [("unicode.White_Space", Rows.laid_unicode_White_Space)] (MemPlace.row ⟨1, 0, none⟩ 1 ++ (MemPlace.row ⟨20, 0, none⟩ 3 ++ (MemPlace.row ⟨19, 0, none⟩ 21))) := laid_one (by kernel_rfl)
theorem dlr7 : laidRowsB Tryz.prog (memW dL) (MemPlace.row ⟨1, 0, none⟩ 1 ++ (MemPlace.row ⟨20, 0, none⟩ 3 ++ (MemPlace.row ⟨19, 0, none⟩ 21))) = true := by kernel_rfl
theorem dlnd : ndB ((MemPlace.row ⟨4, 0, none⟩ 32) ++ ((MemPlace.row ⟨7, 0, none⟩ 20) ++ ((MemPlace.row ⟨9, 0, none⟩ 32) ++ ((MemPlace.row ⟨10, 0, none⟩ 64) ++ ((MemPlace.row ⟨5, 0, none⟩ 1 ++ (MemPlace.row ⟨18, 0, none⟩ 1)) ++ ((MemPlace.row ⟨6, 0, none⟩ 1 ++ (MemPlace.row ⟨17, 0, none⟩ 1)) ++ ((MemPlace.row ⟨0, 0, none⟩ 256) ++ ((MemPlace.row ⟨1, 0, none⟩ 1 ++ (MemPlace.row ⟨20, 0, none⟩ 3 ++ (MemPlace.row ⟨19, 0, none⟩ 21))))))))))) 0 = true := by kernel_rfl
theorem d_met : laidMet Tryz.prog laidOwn (memW dL) := ⟨_, laid_app (laid_app (laid_app (laid_app (laid_app (laid_app (laid_app (dl7) dl6) dl5) dl4) dl3) dl2) dl1) dl0, (ndB_ok _ _ dlnd).1, (rows_app (rows_of dlr0) (rows_app (rows_of dlr1) (rows_app (rows_of dlr2) (rows_app (rows_of dlr3) (rows_app (rows_of dlr4) (rows_app (rows_of dlr5) (rows_app (rows_of dlr6) (rows_of dlr7))))))))⟩
theorem tie : Tryz.prog.laidByTextLater laidOwn [.data, .data, .data, .data, .sentinel, .sentinel, .data, .listed] true := by
  have hn := t_hn
  unfold varsNamedLaterB at hn
  rw [vb, vc] at hn
  change (match vcode.laysInOrder [] with
    | some stored => stored.eraseDups.length == stored.length && Tryz.prog.callsLaidAlone 792 vcode &&
        laidOwn.all fun x => (Tryz.prog.globalNamed x.1).any fun v => (stored.contains v == (Tryz.prog.kindBase x.1 != some .zero)) && callsFit vcode v (Tryz.prog.kindBase x.1) &&
          ((vcode.storedByHandle Tryz.prog).contains v == (Tryz.prog.kindBase x.1 == some .handle)) && (x.2.handleName?.isSome == (Tryz.prog.kindBase x.1 == some .handle || Tryz.prog.kindBase x.1 == some .funcs)) &&
          (Tryz.prog.kindBase x.1 != some .handle || handlePair x) && (x.2.funcsIn?.isSome == (Tryz.prog.kindBase x.1 == some .funcs)) && mapsFit vcode v x.2 (Tryz.prog.kindBase x.1)
    | none => false) = true at hn
  rw [vs] at hn
  replace hn := Bool.and_eq_true_iff.1 hn
  have hn1 := Bool.and_eq_true_iff.1 hn.1
  have hg := varsId_spec t_hg
  rw [vb] at hg
  refine ⟨⟨t_hw, t_hw2, t_hroot, t_hk⟩, 792, vcode, vst, hg, vc, ⟨vs, hn1.1, hn1.2⟩, hn.2, fun os tape _ => ?_⟩
  have d := door_heap os tape
  cases hr : runN Tryz.prog 400 (Machine.entering Tryz.prog (World.unlaid Tryz.prog os) tape 792 ⟨#[], #[], []⟩) with
  | next mm => rw [hr] at d; cases d
  | ended o w =>
    rw [hr] at d
    cases o with
    | done v =>
      have hh : w.heap = dL.toArray := Option.some.inj d
      refine ⟨400, v, w, hr, ?_⟩
      rw [MakeChecks.laidMetH_plain _ _ _ t_hp, memory_eq hh]
      exact d_met
    | _ => cases d
theorem pin_laid_unicode_utf8_first : Tryz.pinned.checked.prog.pinnedFits "unicode/utf8.first" = true := by kernel_rfl
theorem pin_laid_unicode_CaseRanges : Tryz.pinned.checked.prog.pinnedFits "unicode.CaseRanges" = true := by kernel_rfl
theorem noOwnUnsafe : Tryz.pinned.checked.prog.headLifts.contains "ownunsafe" = false := by kernel_rfl
theorem fits1 : Tryz.pinned.checked.prog.listedFits [("unicode/utf8.first", Rows.laid_unicode_utf8_first), ("unicode/utf8.acceptRanges", Rows.laid_unicode_utf8_acceptRanges), ("internal/strconv.uint64pow10", Rows.laid_internal_strconv_uint64pow10), ("math/bits.deBruijn32tab", Rows.laid_math_bits_deBruijn32tab), ("math/bits.deBruijn64tab", Rows.laid_math_bits_deBruijn64tab), ("unicode.CaseRanges", Rows.laid_unicode_CaseRanges), ("strconv.ErrSyntax", Rows.laid_strconv_ErrSyntax), ("strconv.ErrRange", Rows.laid_strconv_ErrRange), ("strings.asciiSpace", Rows.laid_strings_asciiSpace), ("unicode.White_Space", Rows.laid_unicode_White_Space)] = true := by
  unfold Program.listedFits
  rw [noOwnUnsafe]
  kernel_rfl
theorem streamNil_row_tie : Rows.streamNilRow.laidByTextAt .later Tryz.pinned [.pinned, .data, .data, .data, .data, .pinned, .sentinel, .sentinel, .data, .listed] true :=
  OpenClaim.laidByTextAt_pinned rfl rfl tie rfl rfl rfl rfl (fun y hy _e => by
    simp only [Rows.streamNilRow, List.zip_cons_cons, List.zip_nil_right, List.mem_cons, List.mem_nil_iff, or_false] at hy
    rcases hy with rfl | rfl | rfl | rfl | rfl | rfl | rfl | rfl | rfl | rfl
    · exact ⟨pin_laid_unicode_utf8_first, by kernel_rfl⟩
    · cases _e
    · cases _e
    · cases _e
    · cases _e
    · exact ⟨pin_laid_unicode_CaseRanges, by kernel_rfl⟩
    · cases _e
    · cases _e
    · cases _e
    · cases _e) fits1
end Go.Proofs.YteahdpjeoeeemaaGreatDoor

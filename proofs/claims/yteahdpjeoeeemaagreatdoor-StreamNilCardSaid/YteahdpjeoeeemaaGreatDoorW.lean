/- A memory in which the listed tables stand as the row lists them: the call may begin there. -/
import Derived.Test.YteahdpjeoeeemaaGreatDoorV
namespace Go.Proofs.YteahdpjeoeeemaaGreatDoor
open Go Go.Proofs.YteahdpjeoeeemaaGreatDoor.Ax
set_option maxRecDepth 1000000
set_option linter.unusedVariables false
noncomputable def gL : List Obj := [.cells (List.toArray [.int .u8 0, .int .u8 0, .int .u8 0, .int .u8 0, .int .u8 0, .int .u8 0, .int .u8 0, .int .u8 0, .int .u8 0, .int .u8 1, .int .u8 1, .int .u8 1, .int .u8 1, .int .u8 1, .int .u8 0, .int .u8 0, .int .u8 0, .int .u8 0, .int .u8 0, .int .u8 0, .int .u8 0, .int .u8 0, .int .u8 0, .int .u8 0, .int .u8 0, .int .u8 0, .int .u8 0, .int .u8 0, .int .u8 0, .int .u8 0, .int .u8 0, .int .u8 0, .int .u8 1, .int .u8 0, .int .u8 0, .int .u8 0, .int .u8 0, .int .u8 0, .int .u8 0, .int .u8 0, .int .u8 0, .int .u8 0, .int .u8 0, .int .u8 0, .int .u8 0, .int .u8 0, .int .u8 0, .int .u8 0, .int .u8 0, .int .u8 0, .int .u8 0, .int .u8 0, .int .u8 0, .int .u8 0, .int .u8 0, .int .u8 0, .int .u8 0, .int .u8 0, .int .u8 0, .int .u8 0, .int .u8 0, .int .u8 0, .int .u8 0, .int .u8 0, .int .u8 0, .int .u8 0, .int .u8 0, .int .u8 0, .int .u8 0, .int .u8 0, .int .u8 0, .int .u8 0, .int .u8 0, .int .u8 0, .int .u8 0, .int .u8 0, .int .u8 0, .int .u8 0, .int .u8 0, .int .u8 0, .int .u8 0, .int .u8 0, .int .u8 0, .int .u8 0, .int .u8 0, .int .u8 0, .int .u8 0, .int .u8 0, .int .u8 0, .int .u8 0, .int .u8 0, .int .u8 0, .int .u8 0, .int .u8 0, .int .u8 0, .int .u8 0, .int .u8 0, .int .u8 0, .int .u8 0, .int .u8 0, .int .u8 0, .int .u8 0, .int .u8 0, .int .u8 0, .int .u8 0, .int .u8 0, .int .u8 0, .int .u8 0, .int .u8 0, .int .u8 0, .int .u8 0, .int .u8 0, .int .u8 0, .int .u8 0, .int .u8 0, .int .u8 0, .int .u8 0, .int .u8 0, .int .u8 0, .int .u8 0, .int .u8 0, .int .u8 0, .int .u8 0, .int .u8 0, .int .u8 0, .int .u8 0, .int .u8 0, .int .u8 0, .int .u8 0, .int .u8 0, .int .u8 0, .int .u8 0, .int .u8 0, .int .u8 0, .int .u8 0, .int .u8 0, .int .u8 0, .int .u8 0, .int .u8 0, .int .u8 0, .int .u8 0, .int .u8 0, .int .u8 0, .int .u8 0, .int .u8 0, .int .u8 0, .int .u8 0, .int .u8 0, .int .u8 0, .int .u8 0, .int .u8 0, .int .u8 0, .int .u8 0, .int .u8 0, .int .u8 0, .int .u8 0, .int .u8 0, .int .u8 0, .int .u8 0, .int .u8 0, .int .u8 0, .int .u8 0, .int .u8 0, .int .u8 0, .int .u8 0, .int .u8 0, .int .u8 0, .int .u8 0, .int .u8 0, .int .u8 0, .int .u8 0, .int .u8 0, .int .u8 0, .int .u8 0, .int .u8 0, .int .u8 0, .int .u8 0, .int .u8 0, .int .u8 0, .int .u8 0, .int .u8 0, .int .u8 0, .int .u8 0, .int .u8 0, .int .u8 0, .int .u8 0, .int .u8 0, .int .u8 0, .int .u8 0, .int .u8 0, .int .u8 0, .int .u8 0, .int .u8 0, .int .u8 0, .int .u8 0, .int .u8 0, .int .u8 0, .int .u8 0, .int .u8 0, .int .u8 0, .int .u8 0, .int .u8 0, .int .u8 0, .int .u8 0, .int .u8 0, .int .u8 0, .int .u8 0, .int .u8 0, .int .u8 0, .int .u8 0, .int .u8 0, .int .u8 0, .int .u8 0, .int .u8 0, .int .u8 0, .int .u8 0, .int .u8 0, .int .u8 0, .int .u8 0, .int .u8 0, .int .u8 0, .int .u8 0, .int .u8 0, .int .u8 0, .int .u8 0, .int .u8 0, .int .u8 0, .int .u8 0, .int .u8 0, .int .u8 0, .int .u8 0, .int .u8 0, .int .u8 0, .int .u8 0, .int .u8 0, .int .u8 0, .int .u8 0, .int .u8 0, .int .u8 0, .int .u8 0, .int .u8 0, .int .u8 0, .int .u8 0, .int .u8 0, .int .u8 0, .int .u8 0, .int .u8 0, .int .u8 0, .int .u8 0, .int .u8 0, .int .u8 0, .int .u8 0, .int .u8 0, .int .u8 0, .int .u8 0, .int .u8 0]) 421 (0, 0),
  .cells (List.toArray [.pointer (some ⟨20, 0, none⟩)]) 531 (0, 0),
  .cells (List.toArray [.int .i64 0]) 3 (0, 0),
  .cells (List.toArray (Go.Pinned.utf8FirstZ.map fun (n : Nat) => Value.int .u8 n)) 421 (0, 0),
  .cells (List.toArray [.int .u8 128, .int .u8 191, .int .u8 160, .int .u8 191, .int .u8 128, .int .u8 159, .int .u8 144, .int .u8 191, .int .u8 128, .int .u8 143, .int .u8 0, .int .u8 0, .int .u8 0, .int .u8 0, .int .u8 0, .int .u8 0, .int .u8 0, .int .u8 0, .int .u8 0, .int .u8 0, .int .u8 0, .int .u8 0, .int .u8 0, .int .u8 0, .int .u8 0, .int .u8 0, .int .u8 0, .int .u8 0, .int .u8 0, .int .u8 0, .int .u8 0, .int .u8 0]) 619 (0, 0),
  .cells (List.toArray [.iface 624 (.pointer (some ⟨18, 0, none⟩))]) 289 (0, 0),
  .cells (List.toArray [.iface 624 (.pointer (some ⟨17, 0, none⟩))]) 289 (0, 0),
  .cells (List.toArray [.int .u64 1, .int .u64 10, .int .u64 100, .int .u64 1000, .int .u64 10000, .int .u64 100000, .int .u64 1000000, .int .u64 10000000, .int .u64 100000000, .int .u64 1000000000, .int .u64 10000000000, .int .u64 100000000000, .int .u64 1000000000000, .int .u64 10000000000000, .int .u64 100000000000000, .int .u64 1000000000000000, .int .u64 10000000000000000, .int .u64 100000000000000000, .int .u64 1000000000000000000, .int .u64 10000000000000000000]) 653 (0, 0),
  .cells (List.toArray [.slice (some ⟨21, 0, none⟩) Go.Pinned.caseRows.length Go.Pinned.caseRows.length]) 668 (0, 0),
  .cells (List.toArray [.int .u8 0, .int .u8 1, .int .u8 28, .int .u8 2, .int .u8 29, .int .u8 14, .int .u8 24, .int .u8 3, .int .u8 30, .int .u8 22, .int .u8 20, .int .u8 15, .int .u8 25, .int .u8 17, .int .u8 4, .int .u8 8, .int .u8 31, .int .u8 27, .int .u8 13, .int .u8 23, .int .u8 21, .int .u8 19, .int .u8 16, .int .u8 7, .int .u8 26, .int .u8 12, .int .u8 18, .int .u8 6, .int .u8 11, .int .u8 5, .int .u8 10, .int .u8 9]) 672 (0, 0),
  .cells (List.toArray [.int .u8 0, .int .u8 1, .int .u8 56, .int .u8 2, .int .u8 57, .int .u8 49, .int .u8 28, .int .u8 3, .int .u8 61, .int .u8 58, .int .u8 42, .int .u8 50, .int .u8 38, .int .u8 29, .int .u8 17, .int .u8 4, .int .u8 62, .int .u8 47, .int .u8 59, .int .u8 36, .int .u8 45, .int .u8 43, .int .u8 51, .int .u8 22, .int .u8 53, .int .u8 39, .int .u8 33, .int .u8 30, .int .u8 24, .int .u8 18, .int .u8 12, .int .u8 5, .int .u8 63, .int .u8 55, .int .u8 48, .int .u8 27, .int .u8 60, .int .u8 41, .int .u8 37, .int .u8 16, .int .u8 46, .int .u8 35, .int .u8 44, .int .u8 21, .int .u8 52, .int .u8 32, .int .u8 23, .int .u8 11, .int .u8 54, .int .u8 26, .int .u8 40, .int .u8 15, .int .u8 34, .int .u8 20, .int .u8 31, .int .u8 10, .int .u8 25, .int .u8 14, .int .u8 19, .int .u8 9, .int .u8 13, .int .u8 8, .int .u8 7, .int .u8 6]) 673 (0, 0),
  .cells (List.toArray [.pointer (some ⟨20, 0, none⟩)]) 531 (0, 0)]
noncomputable def xL : List Obj := [.cells (List.toArray [.string ⟨#[118, 97, 108, 117, 101, 32, 111, 117, 116, 32, 111, 102, 32, 114, 97, 110, 103, 101]⟩]) 626 (0, 0),
  .cells (List.toArray [.string ⟨#[105, 110, 118, 97, 108, 105, 100, 32, 115, 121, 110, 116, 97, 120]⟩]) 626 (0, 0),
  .cells (List.toArray [.int .u16 9, .int .u16 13, .int .u16 1, .int .u16 32, .int .u16 133, .int .u16 101, .int .u16 160, .int .u16 5760, .int .u16 5600, .int .u16 8192, .int .u16 8202, .int .u16 1, .int .u16 8232, .int .u16 8233, .int .u16 1, .int .u16 8239, .int .u16 8287, .int .u16 48, .int .u16 12288, .int .u16 12288, .int .u16 1]) 599 (0, 0),
  .cells (List.toArray [.slice (some ⟨19, 0, none⟩) 7 7, .slice none 0 0, .int .i64 2]) 596 (0, 0),
  .cells (List.toArray (Go.Pinned.caseRows.flatMap enc5)) 680 (0, 0)]

noncomputable def bL : List Obj := (begin Tryz.prog (fun _ _ => 0) default).world.heap.toList.drop Tryz.prog.globals.size
noncomputable def wL : List Obj := gL ++ (bL ++ xL)
noncomputable def w0 (os : Os) : World := { World.settled Tryz.prog os with heap := wL.toArray }
noncomputable def w1 (os : Os) : World := (w0 os).forCall (fun _ _ => 0) ⟨#[], #[.string .empty], []⟩
theorem w1_heap (os : Os) : (w1 os).heap = wL.toArray := by
  show (Input.heap ⟨#[], #[.string .empty], []⟩ wL.toArray) = _
  rw [Input.heap_fresh rfl]
  simp
theorem gL_len : gL.length = Tryz.prog.globals.size := by kernel_rfl
theorem w_ref (os : Os) : ((begin Tryz.prog (fun _ _ => 0) default).world.heap.toList.drop Tryz.prog.globals.size).length = (begin Tryz.prog (fun _ _ => 0) default).world.heap.size - Tryz.prog.globals.size := by simp
theorem w_rest (os : Os) : ((w1 os).heap.toList.drop Tryz.prog.globals.size).take ((begin Tryz.prog (fun _ _ => 0) default).world.heap.size - Tryz.prog.globals.size) =
    (begin Tryz.prog (fun _ _ => 0) default).world.heap.toList.drop Tryz.prog.globals.size := by
  rw [w1_heap]
  show ((gL ++ (bL ++ xL)).drop _).take _ = bL
  rw [← gL_len, List.drop_left, gL_len]
  have h : (begin Tryz.prog (fun _ _ => 0) default).world.heap.size - Tryz.prog.globals.size = bL.length := (w_ref default).symm
  rw [h, List.take_left]
theorem w_vars (os : Os) : (w1 os).variablesRefB Tryz.prog = true := by kernel_rfl
theorem w_ok (os : Os) : Input.okWideB Tryz.prog (w1 os) 3 ⟨#[], #[.string .empty], []⟩ = true := by kernel_rfl
theorem w_pre (os : Os) {H : Type} (enc : TypeId × Value → H) : Rows.streamNilSpec.preB enc Tryz.prog Tryz.f3 [] false (w1 os).memory #[.string .empty] 8 = true := by kernel_rfl
theorem w_sz (os : Os) {H : Type} (enc : TypeId × Value → H) : Rows.streamNilSpec.sizedB enc Tryz.prog Tryz.f3 false (w1 os).memory #[.string .empty] 8 = true := by kernel_rfl
theorem wm (os : Os) : (w1 os).memory = memW wL := memory_eq (w1_heap os)
theorem wl0 : DataW.LaidVars Tryz.prog (memW wL) [("unicode/utf8.first", Rows.laid_unicode_utf8_first)] (MemPlace.row ⟨3, 0, none⟩ 256) := laid_one (by kernel_rfl)
theorem wlr0 : laidRowsB Tryz.prog (memW wL) (MemPlace.row ⟨3, 0, none⟩ 256) = true := by kernel_rfl
theorem wl1 : DataW.LaidVars Tryz.prog (memW wL) [("unicode/utf8.acceptRanges", Rows.laid_unicode_utf8_acceptRanges)] (MemPlace.row ⟨4, 0, none⟩ 32) := laid_one (by kernel_rfl)
theorem wlr1 : laidRowsB Tryz.prog (memW wL) (MemPlace.row ⟨4, 0, none⟩ 32) = true := by kernel_rfl
theorem wl2 : DataW.LaidVars Tryz.prog (memW wL) [("internal/strconv.uint64pow10", Rows.laid_internal_strconv_uint64pow10)] (MemPlace.row ⟨7, 0, none⟩ 20) := laid_one (by kernel_rfl)
theorem wlr2 : laidRowsB Tryz.prog (memW wL) (MemPlace.row ⟨7, 0, none⟩ 20) = true := by kernel_rfl
theorem wl3 : DataW.LaidVars Tryz.prog (memW wL) [("math/bits.deBruijn32tab", Rows.laid_math_bits_deBruijn32tab)] (MemPlace.row ⟨9, 0, none⟩ 32) := laid_one (by kernel_rfl)
theorem wlr3 : laidRowsB Tryz.prog (memW wL) (MemPlace.row ⟨9, 0, none⟩ 32) = true := by kernel_rfl
theorem wl4 : DataW.LaidVars Tryz.prog (memW wL) [("math/bits.deBruijn64tab", Rows.laid_math_bits_deBruijn64tab)] (MemPlace.row ⟨10, 0, none⟩ 64) := laid_one (by kernel_rfl)
theorem wlr4 : laidRowsB Tryz.prog (memW wL) (MemPlace.row ⟨10, 0, none⟩ 64) = true := by kernel_rfl
theorem wlh : (memW wL).heap[21]? = some (.cells (Go.Pinned.caseRows.flatMap enc5).toArray 680 (0, 0)) := by kernel_rfl
theorem wl5 : DataW.LaidVars Tryz.prog (memW wL) [("unicode.CaseRanges", Rows.laid_unicode_CaseRanges)] (MemPlace.row ⟨8, 0, none⟩ 1 ++ MemPlace.row ⟨21, 0, none⟩ (Go.Pinned.caseRows.length * 5)) :=
  ⟨8, 668, #[.slice (some ⟨21, 0, none⟩) Go.Pinned.caseRows.length Go.Pinned.caseRows.length], 8, _, [], by kernel_rfl, by kernel_rfl, by kernel_rfl, case_trod rfl wlh, rfl, (List.append_nil _).symm⟩
theorem wlr5 : laidRowsB Tryz.prog (memW wL) (MemPlace.row ⟨8, 0, none⟩ 1) = true := by kernel_rfl
theorem wl6 : DataW.LaidVars Tryz.prog (memW wL) [("strconv.ErrSyntax", Rows.laid_strconv_ErrSyntax)] (MemPlace.row ⟨5, 0, none⟩ 1 ++ (MemPlace.row ⟨18, 0, none⟩ 1)) := laid_one (by kernel_rfl)
theorem wlr6 : laidRowsB Tryz.prog (memW wL) (MemPlace.row ⟨5, 0, none⟩ 1 ++ (MemPlace.row ⟨18, 0, none⟩ 1)) = true := by kernel_rfl
theorem wl7 : DataW.LaidVars Tryz.prog (memW wL) [("strconv.ErrRange", Rows.laid_strconv_ErrRange)] (MemPlace.row ⟨6, 0, none⟩ 1 ++ (MemPlace.row ⟨17, 0, none⟩ 1)) := laid_one (by kernel_rfl)
theorem wlr7 : laidRowsB Tryz.prog (memW wL) (MemPlace.row ⟨6, 0, none⟩ 1 ++ (MemPlace.row ⟨17, 0, none⟩ 1)) = true := by kernel_rfl
theorem wl8 : DataW.LaidVars Tryz.prog (memW wL) [("strings.asciiSpace", Rows.laid_strings_asciiSpace)] (MemPlace.row ⟨0, 0, none⟩ 256) := laid_one (by kernel_rfl)
theorem wlr8 : laidRowsB Tryz.prog (memW wL) (MemPlace.row ⟨0, 0, none⟩ 256) = true := by kernel_rfl
theorem wl9 : DataW.LaidVars Tryz.prog (memW wL) [("unicode.White_Space", Rows.laid_unicode_White_Space)] (MemPlace.row ⟨1, 0, none⟩ 1 ++ (MemPlace.row ⟨20, 0, none⟩ 3 ++ (MemPlace.row ⟨19, 0, none⟩ 21))) := laid_one (by kernel_rfl)
theorem wlr9 : laidRowsB Tryz.prog (memW wL) (MemPlace.row ⟨1, 0, none⟩ 1 ++ (MemPlace.row ⟨20, 0, none⟩ 3 ++ (MemPlace.row ⟨19, 0, none⟩ 21))) = true := by kernel_rfl
theorem wlnd : ndB ((MemPlace.row ⟨3, 0, none⟩ 256) ++ ((MemPlace.row ⟨4, 0, none⟩ 32) ++ ((MemPlace.row ⟨7, 0, none⟩ 20) ++ ((MemPlace.row ⟨9, 0, none⟩ 32) ++ ((MemPlace.row ⟨10, 0, none⟩ 64) ++ ((MemPlace.row ⟨8, 0, none⟩ 1 ++ MemPlace.row ⟨21, 0, none⟩ (Go.Pinned.caseRows.length * 5)) ++ ((MemPlace.row ⟨5, 0, none⟩ 1 ++ (MemPlace.row ⟨18, 0, none⟩ 1)) ++ ((MemPlace.row ⟨6, 0, none⟩ 1 ++ (MemPlace.row ⟨17, 0, none⟩ 1)) ++ ((MemPlace.row ⟨0, 0, none⟩ 256) ++ ((MemPlace.row ⟨1, 0, none⟩ 1 ++ (MemPlace.row ⟨20, 0, none⟩ 3 ++ (MemPlace.row ⟨19, 0, none⟩ 21))))))))))))) 0 = true := by kernel_rfl
theorem w_met (os : Os) : laidMetH Tryz.prog Rows.streamNilRow.laid (w1 os).memory := by
  rw [MakeChecks.laidMetH_plain _ _ _ (by kernel_rfl), wm os]
  exact ⟨_, laid_app (laid_app (laid_app (laid_app (laid_app (laid_app (laid_app (laid_app (laid_app (wl9) wl8) wl7) wl6) wl5) wl4) wl3) wl2) wl1) wl0, (ndB_ok _ _ wlnd).1, (rows_app (rows_of wlr0) (rows_app (rows_of wlr1) (rows_app (rows_of wlr2) (rows_app (rows_of wlr3) (rows_app (rows_of wlr4) (rows_app (rows_app (rows_of wlr5) (case_rows rfl wlh _)) (rows_app (rows_of wlr6) (rows_app (rows_of wlr7) (rows_app (rows_of wlr8) (rows_of wlr9))))))))))⟩
end Go.Proofs.YteahdpjeoeeemaaGreatDoor

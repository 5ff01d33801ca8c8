/- The names of the row's tie: which variables the door lays, and how. -/
import Derived.Test.YteahdpjeoeeemaaGreatDoorRows
import Derived.LaidByTextLater
import Derived.SevenTiedAt
namespace Go.Proofs.YteahdpjeoeeemaaGreatDoor
open Go
set_option maxRecDepth 1000000
set_option linter.unusedVariables false
def laidOwn : List (String × DataW Unit) := [("unicode/utf8.acceptRanges", Rows.laid_unicode_utf8_acceptRanges), ("internal/strconv.uint64pow10", Rows.laid_internal_strconv_uint64pow10), ("math/bits.deBruijn32tab", Rows.laid_math_bits_deBruijn32tab), ("math/bits.deBruijn64tab", Rows.laid_math_bits_deBruijn64tab), ("strconv.ErrSyntax", Rows.laid_strconv_ErrSyntax), ("strconv.ErrRange", Rows.laid_strconv_ErrRange), ("strings.asciiSpace", Rows.laid_strings_asciiSpace), ("unicode.White_Space", Rows.laid_unicode_White_Space)]
theorem kb1 : Tryz.prog.kindBase "unicode/utf8.acceptRanges" = some .data := by kernel_rfl
theorem kb2 : Tryz.prog.kindBase "internal/strconv.uint64pow10" = some .data := by kernel_rfl
theorem kb3 : Tryz.prog.kindBase "math/bits.deBruijn32tab" = some .data := by kernel_rfl
theorem kb4 : Tryz.prog.kindBase "math/bits.deBruijn64tab" = some .data := by kernel_rfl
theorem kb5 : Tryz.prog.kindBase "strconv.ErrSyntax" = some .sentinel := by kernel_rfl
theorem kb6 : Tryz.prog.kindBase "strconv.ErrRange" = some .sentinel := by kernel_rfl
theorem kb7 : Tryz.prog.kindBase "strings.asciiSpace" = some .data := by kernel_rfl
theorem kb8 : Tryz.prog.kindBase "unicode.White_Space" = some .listed := by kernel_rfl
theorem vb : varsId Tryz.prog = 792 := by kernel_rfl
noncomputable def vcode : Code := Tryz.f792.body.getD .skip
noncomputable def vst : List Nat := (vcode.laysInOrder []).getD []
theorem vc : (Tryz.prog.funcs[792]?).bind (·.body) = some vcode := by kernel_rfl
theorem vs : vcode.laysInOrder [] = some vst := by kernel_rfl
theorem va1 : (vst.eraseDups.length == vst.length) = true := by kernel_rfl
theorem va2 : Tryz.prog.callsLaidAlone 792 vcode = true := by kernel_rfl
noncomputable def okAt (x : String × DataW Unit) (k : Option LaidKind) : Bool := (Tryz.prog.globalNamed x.1).any fun v => (vst.contains v == (k != some .zero)) && callsFit vcode v k &&
          ((vcode.storedByHandle Tryz.prog).contains v == (k == some .handle)) && (x.2.handleName?.isSome == (k == some .handle || k == some .funcs)) &&
          (k != some .handle || handlePair x) && (x.2.funcsIn?.isSome == (k == some .funcs)) && mapsFit vcode v x.2 k
theorem ok1 : okAt ("unicode/utf8.acceptRanges", Rows.laid_unicode_utf8_acceptRanges) (some .data) = true := by kernel_rfl
theorem ok2 : okAt ("internal/strconv.uint64pow10", Rows.laid_internal_strconv_uint64pow10) (some .data) = true := by kernel_rfl
theorem ok3 : okAt ("math/bits.deBruijn32tab", Rows.laid_math_bits_deBruijn32tab) (some .data) = true := by kernel_rfl
theorem ok4 : okAt ("math/bits.deBruijn64tab", Rows.laid_math_bits_deBruijn64tab) (some .data) = true := by kernel_rfl
theorem ok5 : okAt ("strconv.ErrSyntax", Rows.laid_strconv_ErrSyntax) (some .sentinel) = true := by kernel_rfl
theorem ok6 : okAt ("strconv.ErrRange", Rows.laid_strconv_ErrRange) (some .sentinel) = true := by kernel_rfl
theorem ok7 : okAt ("strings.asciiSpace", Rows.laid_strings_asciiSpace) (some .data) = true := by kernel_rfl
theorem ok8 : okAt ("unicode.White_Space", Rows.laid_unicode_White_Space) (some .listed) = true := by kernel_rfl
theorem t_hn : varsNamedLaterB Tryz.prog (varsId Tryz.prog) laidOwn = true := by
  unfold varsNamedLaterB
  rw [vb, vc]
  show (match vcode.laysInOrder [] with
    | some stored => stored.eraseDups.length == stored.length && Tryz.prog.callsLaidAlone 792 vcode &&
        laidOwn.all fun x => (Tryz.prog.globalNamed x.1).any fun v => (stored.contains v == (Tryz.prog.kindBase x.1 != some .zero)) && callsFit vcode v (Tryz.prog.kindBase x.1) &&
          ((vcode.storedByHandle Tryz.prog).contains v == (Tryz.prog.kindBase x.1 == some .handle)) && (x.2.handleName?.isSome == (Tryz.prog.kindBase x.1 == some .handle || Tryz.prog.kindBase x.1 == some .funcs)) &&
          (Tryz.prog.kindBase x.1 != some .handle || handlePair x) && (x.2.funcsIn?.isSome == (Tryz.prog.kindBase x.1 == some .funcs)) && mapsFit vcode v x.2 (Tryz.prog.kindBase x.1)
    | none => false) = true
  rw [vs]
  show (vst.eraseDups.length == vst.length && Tryz.prog.callsLaidAlone 792 vcode && laidOwn.all fun x => okAt x (Tryz.prog.kindBase x.1)) = true
  rw [va1, va2]
  simp only [laidOwn, List.all_cons, List.all_nil, kb1, kb2, kb3, kb4, kb5, kb6, kb7, kb8, ok1, ok2, ok3, ok4, ok5, ok6, ok7, ok8, Bool.and_self]
theorem t_hw : Tryz.prog.worded (varsWordLater true) = true := by kernel_rfl
theorem t_hw2 : Tryz.prog.worded (varsWordLater !true) = false := by kernel_rfl
theorem t_hroot : Tryz.prog.worded rootWordLater = true := by kernel_rfl
theorem t_hk : laidOwn.map (fun x => Tryz.prog.kindOfLater x.1) = ([.data, .data, .data, .data, .sentinel, .sentinel, .data, .listed] : List LaidKind).map some := by kernel_rfl
theorem t_hg : (Tryz.prog.funcNamed "gosem.cut.vars").isSome = true := by kernel_rfl
theorem t_hp : (laidOwn.all fun x => x.2.handleName?.isNone) = true := by kernel_rfl
end Go.Proofs.YteahdpjeoeeemaaGreatDoor

-- Joined by our own program (wip/tools/prune.py) out of the seat's texts, less what this claim doesn't name.
import Derived.Test.YtchekgnacodolaaGreatDoorJ15
import Derived.Test.YtchekgnacodolaaGreatDoorJ19
section
namespace Go.Proofs.YtchekgnacodolaaGreatDoor.X
open Go.RowKit Go.Proofs.YtchekgnacodolaaGreatDoorW.PrintWords
abbrev laidListT : List (String × DataW Unit) := [("math/bits.deBruijn32tab", Rows.laid_math_bits_deBruijn32tab), ("math/bits.deBruijn64tab", Rows.laid_math_bits_deBruijn64tab), ("internal/strconv.uint64pow10", Rows.laid_internal_strconv_uint64pow10), ("errors.errorType", Rows.laid_errors_errorType), ("strconv.ErrRange", Rows.laid_strconv_ErrRange), ("strconv.ErrSyntax", Rows.laid_strconv_ErrSyntax), ("chancel/lex.keys", Rows.laid_chancel_lex_keys), ("chancel/lex.marks", Rows.laid_chancel_lex_marks), ("chancel/term.kids", Rows.laid_chancel_term_kids), ("chancel/term.ops", Rows.laid_chancel_term_ops), ("chancel/parse.errGrammar", Rows.laid_chancel_parse_errGrammar)]
theorem GQ.of_laid {W : World} (h : laidMetH Tryz.prog laidListT W) (hs : W.ShapedOpen Tryz.prog) : GQ W := by
  have h1 : laidMetH Tryz.prog laidList W := h.filter fun x => !(x.1 == "chancel/term.kids" || x.1 == "chancel/term.ops")
  have k1 : laidMet Tryz.prog [("chancel/term.kids", Rows.laid_chancel_term_kids)] W := h.filter fun x => x.1 == "chancel/term.kids"
  have k2 : laidMet Tryz.prog [("chancel/term.ops", Rows.laid_chancel_term_ops)] W := h.filter fun x => x.1 == "chancel/term.ops"
  refine ⟨GL.of_laid h1 hs, ?_, ?_⟩
  · exact Lib.tabIs_of_head (g := 1) (zs := kidTab) (rest := []) (by kernel_rfl) (by kernel_rfl) Tryz.underlying169 Tryz.underlying3 (by kernel_rfl) (by kernel_rfl) k1
  · exact strs_of_head gops (by kernel_rfl) Tryz.underlying171 Tryz.underlying9 (by kernel_rfl) (by kernel_rfl) k2
end Go.Proofs.YtchekgnacodolaaGreatDoor.X
end

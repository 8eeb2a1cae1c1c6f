-- Joined by our own program (wip/tools/prune.py) out of the seat's texts, less what this claim doesn't name.
import Derived.Test.YtchekgnacodolaaDoorJ15
import Derived.Test.YtchekgnacodolaaDoorJ20
section
namespace Go.Proofs.YtchekgnacodolaaDoor.X
open Go.RowKit Go.Proofs.YtchekgnacodolaaDoorW.PrintWords
abbrev laidListT : List (String × DataW Unit) := [("math/bits.deBruijn32tab", Rows.laid_math_bits_deBruijn32tab), ("math/bits.deBruijn64tab", Rows.laid_math_bits_deBruijn64tab), ("internal/strconv.uint64pow10", Rows.laid_internal_strconv_uint64pow10), ("strconv.ErrRange", Rows.laid_strconv_ErrRange), ("strconv.ErrSyntax", Rows.laid_strconv_ErrSyntax), ("chancel/lex.keys", Rows.laid_chancel_lex_keys), ("chancel/lex.marks", Rows.laid_chancel_lex_marks), ("chancel/term.kids", Rows.laid_chancel_term_kids), ("chancel/term.ops", Rows.laid_chancel_term_ops)]
theorem GP.of_laid {W : World} (h : laidMetH Tryd.prog laidListT W) (hs : W.ShapedOpen Tryd.prog) : GP W := by
  have h1 : laidMetH Tryd.prog laidList W := h.filter fun x => !(x.1 == "chancel/term.kids" || x.1 == "chancel/term.ops")
  have k1 : laidMet Tryd.prog [("chancel/term.kids", Rows.laid_chancel_term_kids)] W := h.filter fun x => x.1 == "chancel/term.kids"
  have k2 : laidMet Tryd.prog [("chancel/term.ops", Rows.laid_chancel_term_ops)] W := h.filter fun x => x.1 == "chancel/term.ops"
  refine ⟨GL.of_laid h1 hs, ?_, ?_⟩
  · exact Lib.tabIs_of_head (g := 0) (zs := kidTab) (rest := []) (by kernel_rfl) (by kernel_rfl) Tryd.underlying68 Tryd.underlying3 (by kernel_rfl) (by kernel_rfl) k1
  · exact strs_of_head gops (by kernel_rfl) Tryd.underlying71 Tryd.underlying9 (by kernel_rfl) (by kernel_rfl) k2
end Go.Proofs.YtchekgnacodolaaDoor.X
end

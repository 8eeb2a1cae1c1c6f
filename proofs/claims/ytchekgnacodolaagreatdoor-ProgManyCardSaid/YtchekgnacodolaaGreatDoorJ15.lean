-- Joined by our own program (wip/tools/prune.py) out of the seat's texts, less what this claim doesn't name.
import Derived.Stop.LaidErr
import Derived.LaidSub
import Derived.Lib.LaidTab
import Derived.Test.YtchekgnacodolaaGreatDoorJ8
import Derived.Test.YtchekgnacodolaaGreatDoorJ9
section
namespace Go.Proofs.YtchekgnacodolaaGreatDoor.X
open Go.RowKit Go.Proofs.YtchekgnacodolaaGreatDoorW.PrintWords
theorem cells_of_strs {H : Type} {enc : TypeId × Value → H} {P : Program} {w : World} {base : Nat} {sp : Nat → Bool} {held : Bool} {fuel : Nat} {t e : TypeId} {n : Nat} {cs : List Value} {zs : List ByteArray} {p : List MemPlace}
    (ht : P.underlying t = some (.array n e)) (he : P.underlying e = some .string) (hce : P.cellsOf e = 1) (hct : P.cellsOf t = n)
    (h : DataW.trod enc P w base sp held fuel t cs = some (.agg (zs.map fun z => .lit (.string z.data.toList)), p)) : cs = zs.map Value.string := by
  cases fuel with
  | zero => simp [DataW.trod] at h
  | succ fuel =>
    simp only [DataW.trod, ht, hce, hct, Nat.mul_one] at h
    split at h
    · rename_i hl
      obtain ⟨xs, hm, hx⟩ := Option.map_eq_some_iff.1 h
      have hxs : xs.map (·.1) = zs.map fun z => (DataW.lit (.string z.data.toList) : DataW H) := by
        have := congrArg Prod.fst hx
        simpa using this
      have hxl : xs.length = n := by simpa using Lib.mapM_length hm
      have hzl : zs.length = n := by
        have := congrArg List.length hxs
        simp at this
        omega
      apply List.ext_getElem?
      intro i
      by_cases hi : i < n
      · obtain ⟨b, hb, hf⟩ := Lib.mapM_at hm i i (by simp [hi])
        obtain ⟨z, hc, rfl, _⟩ := DataW.trod_string he hf
        have h1 : cs[i]? = some (.string z) := by
          have := congrArg (·[0]?) hc
          simpa [List.getElem?_take, List.getElem?_drop] using this
        have h2 : (xs.map (·.1))[i]? = some (DataW.lit (.string z.data.toList) : DataW H) := by simp [hb]
        rw [hxs] at h2
        simp only [List.getElem?_map, Option.map_eq_some_iff, DataW.lit.injEq, Lit.string.injEq] at h2
        obtain ⟨z', hz', he2⟩ := h2
        have : z' = z := by
          cases z; cases z'
          congr 1
          exact Array.toList_inj.1 he2
        subst this
        simp [h1, hz']
      · rw [List.getElem?_eq_none (by omega), List.getElem?_eq_none (by simp; omega)]
    · cases h
theorem strs_of_head {P : Program} {W : World} {name : String} {zs : List ByteArray} {rest : List (String × DataW Unit)} {g : Nat} {t e : TypeId} {n : Nat}
    (hg : P.globalNamed name = some g) (hty : (P.globals[g]?).map (·.type) = some t) (ht : P.underlying t = some (.array n e)) (he : P.underlying e = some .string) (hce : P.cellsOf e = 1) (hct : P.cellsOf t = n)
    (h : laidMet P ((name, .agg (zs.map fun z => .lit (.string z.data.toList))) :: rest) W) : W.var? P name = some (zs.map Value.string).toArray := by
  obtain ⟨ps, ⟨g', t', cs, fuel, p, q, hg', ht', hvar, hd, _, _⟩, _⟩ := h
  obtain rfl := Option.some.inj (hg.symm.trans hg')
  obtain rfl := Option.some.inj (hty.symm.trans ht')
  rw [hvar, ← cells_of_strs ht he hce hct hd]
abbrev laidList : List (String × DataW Unit) := [("math/bits.deBruijn32tab", Rows.laid_math_bits_deBruijn32tab), ("math/bits.deBruijn64tab", Rows.laid_math_bits_deBruijn64tab), ("internal/strconv.uint64pow10", Rows.laid_internal_strconv_uint64pow10), ("errors.errorType", Rows.laid_errors_errorType), ("strconv.ErrRange", Rows.laid_strconv_ErrRange), ("strconv.ErrSyntax", Rows.laid_strconv_ErrSyntax), ("chancel/lex.keys", Rows.laid_chancel_lex_keys), ("chancel/lex.marks", Rows.laid_chancel_lex_marks), ("chancel/parse.errGrammar", Rows.laid_chancel_parse_errGrammar)]
theorem errVar : Tryz.prog.globalNamed "errors.errorType" = some 3 := by kernel_rfl
theorem errType : (Tryz.prog.cutTypes.find? (·.1 == "internal/reflectlite.rtype")).map (·.2) = some 240 := by kernel_rfl
theorem errSize : Tryz.prog.types.size = 312 := by kernel_rfl
theorem errOne : ((List.range 312).filter fun t => Tryz.prog.rowNamed t [101, 114, 114, 111, 114]) = [94] := by kernel_rfl
theorem handle_laid {W : World} (h : laidMetH Tryz.prog [("errors.errorType", Rows.laid_errors_errorType)] W) : W.cell? ⟨3, 0, none⟩ = some (.iface 240 (.agg #[typeHandle Tryz.prog 94])) := by
  have h' : laidMet Tryz.prog [] W ∧ handlesMet Tryz.prog [("errors.errorType", Rows.laid_errors_errorType)] W := h
  obtain ⟨name, u, ty, e1, e2, e3, e4, e5⟩ := h'.2 _ (List.mem_singleton.2 rfl)
  have en : name = [101, 114, 114, 111, 114] := (Option.some.inj e1).symm
  subst en
  obtain rfl := Option.some.inj (errType.symm.trans e2)
  have hm : ty ∈ (List.range 312).filter fun t => Tryz.prog.rowNamed t [101, 114, 114, 111, 114] := List.mem_filter.2 ⟨List.mem_range.2 (by rw [← errSize]; exact e3), e4⟩
  rw [errOne] at hm
  obtain rfl := List.mem_singleton.1 hm
  simpa using World.var?_cell errVar e5 0
theorem star_name : "*" ++ "errors.errorString" = "*errors.errorString" := by decide
theorem errRow (u : TypeId) (h : Tryz.prog.typeName? 3 u = some "*errors.errorString") : u = 283 :=
  typeName_ptr_named (nm := "errors.errorString") (by rw [star_name]; kernel_rfl) (by kernel_rfl) (by decide) u (by rw [star_name]; exact h)
theorem GL.of_laid {W : World} (h : laidMetH Tryz.prog laidList W) (hs : W.ShapedOpen Tryz.prog) : GL W := by
  have k1 : laidMet Tryz.prog [("chancel/lex.keys", Rows.laid_chancel_lex_keys)] W := h.filter fun x => x.1 == "chancel/lex.keys"
  have k2 : laidMet Tryz.prog [("chancel/lex.marks", Rows.laid_chancel_lex_marks)] W := h.filter fun x => x.1 == "chancel/lex.marks"
  have k3 : laidMet Tryz.prog [("internal/strconv.uint64pow10", Rows.laid_internal_strconv_uint64pow10)] W := h.filter fun x => x.1 == "internal/strconv.uint64pow10"
  have k4 : laidMet Tryz.prog [("strconv.ErrSyntax", Rows.laid_strconv_ErrSyntax)] W := h.filter fun x => x.1 == "strconv.ErrSyntax"
  have k5 : laidMet Tryz.prog [("strconv.ErrRange", Rows.laid_strconv_ErrRange)] W := h.filter fun x => x.1 == "strconv.ErrRange"
  have k6 : laidMet Tryz.prog [("chancel/parse.errGrammar", Rows.laid_chancel_parse_errGrammar)] W := h.filter fun x => x.1 == "chancel/parse.errGrammar"
  have k7 : laidMetH Tryz.prog [("errors.errorType", Rows.laid_errors_errorType)] W := h.filter fun x => x.1 == "errors.errorType"
  constructor
  · exact strs_of_head gkeys (by kernel_rfl) Tryz.underlying223 Tryz.underlying9 (by kernel_rfl) (by kernel_rfl) k1
  · exact strs_of_head gmarks (by kernel_rfl) Tryz.underlying212 Tryz.underlying9 (by kernel_rfl) (by kernel_rfl) k2
  · exact Lib.tabIs_of_head (g := 6) (zs := Lib.pow10Tab) (rest := []) (by kernel_rfl) (by kernel_rfl) Tryz.underlying259 Tryz.underlying230 (by kernel_rfl) (by kernel_rfl) k3
  · obtain ⟨a, s, hv, -⟩ := laid_sentinel k4 (g := 8) (by kernel_rfl) (by kernel_rfl) Tryz.underlying94 errRow Tryz.underlying283 Tryz.underlying285 rfl rfl Tryz.underlying9 (by kernel_rfl) (by kernel_rfl)
    exact ⟨_, _, hv⟩
  · obtain ⟨a, s, hv, -⟩ := laid_sentinel k5 (g := 9) (by kernel_rfl) (by kernel_rfl) Tryz.underlying94 errRow Tryz.underlying283 Tryz.underlying285 rfl rfl Tryz.underlying9 (by kernel_rfl) (by kernel_rfl)
    exact ⟨_, _, hv⟩
  · exact Tryz.laysM145.s1_3 W hs
  · obtain ⟨a, s, hv, -⟩ := laid_sentinel k6 (g := 0) (by kernel_rfl) (by kernel_rfl) Tryz.underlying94 errRow Tryz.underlying283 Tryz.underlying285 rfl rfl Tryz.underlying9 (by kernel_rfl) (by kernel_rfl)
    exact ⟨_, hv⟩
  · exact handle_laid k7
end Go.Proofs.YtchekgnacodolaaGreatDoor.X
end

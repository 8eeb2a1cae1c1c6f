-- Joined by our own program (wip/tools/prune.py) out of the seat's texts, less what this claim doesn't name.
import Derived.BigQuiet
import Derived.StillTailTactics
import Derived.Outline
import Derived.Test.YtchekgnacodolaaDoorJ6
import Derived.Test.YtchekgnacodolaaDoorJ14
section
namespace Go.Proofs.YtchekgnacodolaaDoor.X
open Go.RowKit Go.Proofs.YtchekgnacodolaaDoorW.PrintWords Go.Proofs.YtchekgnacodolaaDoorW.PrintLast Go.Proofs.YtchekgnacodolaaDoorW.PrintMore
set_option linter.unusedSimpArgs false
set_option linter.unusedVariables false
def Own (w : World) (b : Nat) (cs : Array Value) (T : TypeId) : Prop := w.heap[b]? = some (.cells cs T (0, 0))
theorem Own.past {g b : Nat} {w w1 : World} {cs : Array Value} {T : TypeId} (h : Own w b cs T) (hp : Past g w w1) (hg : b ≠ g) : Own w1 b cs T := blk_past h hp hg
theorem Own.alloc {b : Nat} {w : World} {cs : Array Value} {T : TypeId} (h : Own w b cs T) (o : Obj) : Own (w.alloc o) b cs T := blk_alloc h o
theorem Own.new (w : World) (cs : Array Value) (T : TypeId) : Own (w.alloc (.cells cs T)) w.heap.size cs T := blk_new w _
theorem Own.cell {b : Nat} {w : World} {cs : Array Value} {T : TypeId} (h : Own w b cs T) (i : Nat) : w.cell? ⟨b, i, none⟩ = cs[i]? := blk_cell h i
theorem Own.fz {b : Nat} {w : World} {cs : Array Value} {T : TypeId} (h : Own w b cs T) (i : Nat) : w.frozen? ⟨b, i, none⟩ = false := blk_frozen h i
abbrev zeroV : Array Value := #[.int .i64 0, .string ⟨#[]⟩, .int .i64 0, .slice none 0 0]
theorem four_set {N w3size : Nat} {w w' : World} {a b c d : Value} (h : Below N w w') : Below N w ((((w'.setCell ⟨N, 0, none⟩ a).setCell ⟨N, 1, none⟩ b).setCell ⟨N, 2, none⟩ c).setCell ⟨N, 3, none⟩ d) :=
  (((h.setCell (Nat.le_refl _) _).setCell (Nat.le_refl _) _).setCell (Nat.le_refl _) _).setCell (Nat.le_refl _) _
theorem four_same {base N : Nat} {w w' : World} {a b c d : Value} (h : Same base w w') (hN : N < base) : Same base w ((((w'.setCell ⟨N, 0, none⟩ a).setCell ⟨N, 1, none⟩ b).setCell ⟨N, 2, none⟩ c).setCell ⟨N, 3, none⟩ d) :=
  (((h.set hN _).set hN _).set hN _).set hN _
theorem Own.four {N : Nat} {w : World} {x0 x1 x2 x3 a b c d : Value} {T : TypeId} (h : Own w N #[x0, x1, x2, x3] T) : Own ((((w.setCell ⟨N, 0, none⟩ a).setCell ⟨N, 1, none⟩ b).setCell ⟨N, 2, none⟩ c).setCell ⟨N, 3, none⟩ d) N #[a, b, c, d] T := by
  have := blk_set (blk_set (blk_set (blk_set h 0 a) 1 b) 2 c) 3 d
  simpa [Own] using this
theorem ret4 {fn : Func} {p N : Nat} {tmps : Array Value} {w : World} {a b c d : Value} {R : Ending → World → Prop} (h : fn.results = #[.cell p 26]) (hp : tmps.getD p undef = .pointer (some ⟨N, 0, none⟩)) (hb : Own w N #[a, b, c, d] 26) (hR : R (.returned (.agg #[a, b, c, d])) w) : bodyPost Tryd.prog fn R Exit.ret { tmps := tmps, defers := [] } w :=
  bodyPost_ret (results_cell_row h tmps w N 26 #[a, b, c, d] (0, 0) _ hp hb Tryd.underlying26 rfl (by kernel_rfl)) rfl hR
end Go.Proofs.YtchekgnacodolaaDoor.X
end
section
namespace Go.Proofs.YtchekgnacodolaaDoor.X
open Go.RowKit Go.Proofs.YtchekgnacodolaaDoorW.PrintWords Go.Proofs.YtchekgnacodolaaDoorW.PrintLast Go.Proofs.YtchekgnacodolaaDoorW.PrintMore
set_option linter.unusedSimpArgs false
set_option linter.unusedVariables false
def TmR (w : World) (t : Tm) (v : Value) : Prop := ∃ A c, v = .agg #[.int .i64 t.f0, .string t.f1, .int .i64 t.f2, .slice A t.f3.length c] ∧ t.f3.length ≤ c ∧ Kd.C k26 w A t.f3.length t.f3
theorem TmV.R {base : Nat} {w : World} {t : Tm} {v : Value} (h : TmV base w t v) : TmR w t v := by
  obtain ⟨A, c, e, hl, hC⟩ := h
  exact ⟨A, c, e, hl, hC w (Same.refl _ _)⟩
theorem TmR.below {w w1 : World} {t : Tm} {v : Value} (h : TmR w t v) (hb : Below w.heap.size w w1) : TmR w1 t v := by
  obtain ⟨A, c, e, hl, hC⟩ := h
  exact ⟨A, c, e, hl, Kd.C_below hC hb⟩
theorem rdTmAt (l : List Tm) (i : Nat) (h : i < l.length) : rd_T26 l (i : Int) = l[i] := by
  unfold rd_T26; simp [List.getD_eq_getElem?_getD, List.getElem?_eq_getElem h]
theorem TmR.at {w : World} {A : Option Addr} {l : List Tm} (h : Kd.C k26 w A l.length l) (i : Nat) (hi : i < l.length) :
    ∃ ad A3 c3, A = some ad ∧ w.cell? (ad.add (i * 4)) = some (.int .i64 l[i].f0) ∧ w.cell? ⟨(ad.add (i * 4)).block, (ad.add (i * 4)).off + 1, none⟩ = some (.string l[i].f1) ∧ w.cell? ⟨(ad.add (i * 4)).block, (ad.add (i * 4)).off + 2, none⟩ = some (.int .i64 l[i].f2) ∧ w.cell? ⟨(ad.add (i * 4)).block, (ad.add (i * 4)).off + 3, none⟩ = some (.slice A3 l[i].f3.length c3) ∧ TmR w l[i] (.agg #[.int .i64 l[i].f0, .string l[i].f1, .int .i64 l[i].f2, .slice A3 l[i].f3.length c3]) := by
  obtain ⟨ad, A3, c3, e, h0, h1, h2, h3, hl, hC⟩ := at_T26 h (i : Int) (by omega) (by omega)
  rw [rdTmAt l i hi, Int.toNat_natCast] at *
  exact ⟨ad, A3, c3, e, h0, h1, h2, h3, A3, c3, rfl, hl, hC⟩
end Go.Proofs.YtchekgnacodolaaDoor.X
end

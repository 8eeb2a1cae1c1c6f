/- What the package-level variables hold, as one fact on the world ('GL w'), and that the call's own blocks and draws do not turn it. -/
import Derived.Test.YtcpknmffnglegaaDoorX0
import Derived.Test.YtcpknmffnglegaaDoorRows
import Derived.WalkSmall
import Derived.Lib.LaidTab
import Derived.Lib.ItoaNum
namespace Go.Proofs.YtcpknmffnglegaaDoor.X
open Go.RowKit Go.Proofs.YtcpknmffnglegaaDoorW.PrintWords

def keyWords : List ByteArray := [⟨#[102, 117, 110]⟩, ⟨#[108, 101, 116]⟩, ⟨#[105, 110]⟩, ⟨#[105, 102]⟩, ⟨#[116, 104, 101, 110]⟩, ⟨#[101, 108, 115, 101]⟩, ⟨#[119, 104, 105, 108, 101]⟩, ⟨#[100, 111]⟩, ⟨#[114, 97, 105, 115, 101]⟩, ⟨#[116, 114, 121]⟩, ⟨#[119, 105, 116, 104]⟩, ⟨#[105, 110, 112, 117, 116]⟩, ⟨#[99, 101, 108, 108]⟩, ⟨#[100, 101, 102]⟩]
def markWords : List ByteArray := [⟨#[61, 62]⟩, ⟨#[58, 61]⟩, ⟨#[40]⟩, ⟨#[41]⟩, ⟨#[59]⟩, ⟨#[58]⟩, ⟨#[61]⟩, ⟨#[33]⟩, ⟨#[43]⟩, ⟨#[45]⟩, ⟨#[42]⟩, ⟨#[60]⟩, ⟨#[46]⟩]

/-- What the variables hold. -/
structure GL (w : World) : Prop where
  keys : w.var? Tryd.prog "chancel/lex.keys" = some (keyWords.map Value.string).toArray
  marks : w.var? Tryd.prog "chancel/lex.marks" = some (markWords.map Value.string).toArray
  pow : Lib.TabIs Tryd.prog w "internal/strconv.uint64pow10" .u64 Lib.pow10Tab
  esyn : ∃ tp p, w.var? Tryd.prog "strconv.ErrSyntax" = some #[.iface tp p]
  eran : ∃ tp p, w.var? Tryd.prog "strconv.ErrRange" = some #[.iface tp p]
  maxl : ∃ m, w.cell? ⟨2, 0, none⟩ = some (.int .i64 m)

theorem var?_kept {P : Program} {w w1 : World} {n : String} {cs : Array Value} (hb : Below w.heap.size w w1) (hv : w.var? P n = some cs) : w1.var? P n = some cs := by
  unfold World.var? at hv ⊢
  cases hg : P.globalNamed n with
  | none => rw [hg] at hv; cases hv
  | some g =>
    rw [hg] at hv
    simp only [Option.bind_some] at hv ⊢
    have hlt : g < w.heap.size := by
      rcases Nat.lt_or_ge g w.heap.size with h | h
      · exact h
      · rw [Array.getElem?_eq_none h] at hv; cases hv
    rw [hb.block g hlt]
    exact hv

theorem GL.below {w w1 : World} (h : GL w) (hb : Below w.heap.size w w1) : GL w1 :=
  ⟨var?_kept hb h.keys, var?_kept hb h.marks, var?_kept hb h.pow, h.esyn.imp fun _ => Exists.imp fun _ => var?_kept hb, h.eran.imp fun _ => Exists.imp fun _ => var?_kept hb, h.maxl.imp fun _ => pw_cell_below hb⟩
theorem GL.alloc {w : World} (h : GL w) (o : Obj) : GL (w.alloc o) := h.below (below_alloc (Below.refl _ _) o)
theorem GL.drewN {w : World} (h : GL w) (n : Nat) : GL (w.drewN n) := h.below (pw_below_drewN (Below.refl _ _) n)
theorem GL.drew {w : World} (h : GL w) : GL w.drew := h.below (below_drew (Below.refl _ _))

theorem gkeys : Tryd.prog.globalNamed "chancel/lex.keys" = some 0 := by kernel_rfl
theorem gmarks : Tryd.prog.globalNamed "chancel/lex.marks" = some 1 := by kernel_rfl
theorem GL.key {w : World} (h : GL w) (i : Nat) : w.cell? ⟨0, i, none⟩ = (keyWords.map Value.string)[i]? := by
  rw [World.var?_cell gkeys h.keys i]; simp
theorem GL.mark {w : World} (h : GL w) (i : Nat) : w.cell? ⟨1, i, none⟩ = (markWords.map Value.string)[i]? := by
  rw [World.var?_cell gmarks h.marks i]; simp
end Go.Proofs.YtcpknmffnglegaaDoor.X

/- What the package-level variables hold, as one fact on the world ('GL w'), and that the call's own blocks and draws do not turn it. -/
import Derived.Test.YtchekgnacodolaaGreatDoorX0
import Derived.Test.YtchekgnacodolaaGreatDoorRows
import Derived.WalkSmall
import Derived.Lib.LaidTab
import Derived.Lib.ItoaNum
namespace Go.Proofs.YtchekgnacodolaaGreatDoor.X
open Go.RowKit Go.Proofs.YtchekgnacodolaaGreatDoorW.PrintWords

def keyWords : List ByteArray := [⟨#[102, 117, 110]⟩, ⟨#[108, 101, 116]⟩, ⟨#[105, 110]⟩, ⟨#[105, 102]⟩, ⟨#[116, 104, 101, 110]⟩, ⟨#[101, 108, 115, 101]⟩, ⟨#[119, 104, 105, 108, 101]⟩, ⟨#[100, 111]⟩, ⟨#[114, 97, 105, 115, 101]⟩, ⟨#[116, 114, 121]⟩, ⟨#[119, 105, 116, 104]⟩, ⟨#[105, 110, 112, 117, 116]⟩, ⟨#[99, 101, 108, 108]⟩, ⟨#[100, 101, 102]⟩]
def markWords : List ByteArray := [⟨#[61, 62]⟩, ⟨#[58, 61]⟩, ⟨#[40]⟩, ⟨#[41]⟩, ⟨#[59]⟩, ⟨#[58]⟩, ⟨#[61]⟩, ⟨#[33]⟩, ⟨#[43]⟩, ⟨#[45]⟩, ⟨#[42]⟩, ⟨#[60]⟩, ⟨#[46]⟩]

/-- What the variables hold. -/
structure GL (w : World) : Prop where
  keys : w.var? Tryz.prog "chancel/lex.keys" = some (keyWords.map Value.string).toArray
  marks : w.var? Tryz.prog "chancel/lex.marks" = some (markWords.map Value.string).toArray
  pow : Lib.TabIs Tryz.prog w "internal/strconv.uint64pow10" .u64 Lib.pow10Tab
  esyn : ∃ tp p, w.var? Tryz.prog "strconv.ErrSyntax" = some #[.iface tp p]
  eran : ∃ tp p, w.var? Tryz.prog "strconv.ErrRange" = some #[.iface tp p]
  maxl : ∃ m, w.cell? ⟨7, 0, none⟩ = some (.int .i64 m)
  egram : ∃ a, w.var? Tryz.prog "chancel/parse.errGrammar" = some #[.iface 283 (.pointer (some a))]
  etyp : w.cell? ⟨3, 0, none⟩ = some (.iface 240 (.agg #[typeHandle Tryz.prog 94]))

theorem var?_kept {P : Program} {w w1 : World} {n : String} {cs : Array Value} (hb : Below w.heap.size w w1) (hv : w.var? P n = some cs) : w1.var? P n = some cs := by
  unfold World.var? at hv ⊢
  cases hg : P.globalNamed n with
  | none => rw [hg] at hv; cases hv
  | some g =>
    rw [hg] at hv
    simp only [Option.bind_some] at hv ⊢
    have hlt : g < w.heap.size := by
      rcases Nat.lt_or_ge g w.heap.size with h | h
      · exact h
      · rw [Array.getElem?_eq_none h] at hv; cases hv
    rw [hb.block g hlt]
    exact hv

theorem GL.below {w w1 : World} (h : GL w) (hb : Below w.heap.size w w1) : GL w1 := by
  constructor
  · exact var?_kept hb h.keys
  · exact var?_kept hb h.marks
  · exact var?_kept hb h.pow
  · exact h.esyn.imp fun _ => Exists.imp fun _ => var?_kept hb
  · exact h.eran.imp fun _ => Exists.imp fun _ => var?_kept hb
  · exact h.maxl.imp fun _ => pw_cell_below hb
  · exact h.egram.imp fun _ => var?_kept hb
  · exact pw_cell_below hb h.etyp
theorem GL.alloc {w : World} (h : GL w) (o : Obj) : GL (w.alloc o) := h.below (below_alloc (Below.refl _ _) o)
theorem GL.drewN {w : World} (h : GL w) (n : Nat) : GL (w.drewN n) := h.below (pw_below_drewN (Below.refl _ _) n)
theorem GL.drew {w : World} (h : GL w) : GL w.drew := h.below (below_drew (Below.refl _ _))

theorem gkeys : Tryz.prog.globalNamed "chancel/lex.keys" = some 5 := by kernel_rfl
theorem gmarks : Tryz.prog.globalNamed "chancel/lex.marks" = some 4 := by kernel_rfl
theorem GL.key {w : World} (h : GL w) (i : Nat) : w.cell? ⟨5, i, none⟩ = (keyWords.map Value.string)[i]? := by
  rw [World.var?_cell gkeys h.keys i]; simp
theorem GL.mark {w : World} (h : GL w) (i : Nat) : w.cell? ⟨4, i, none⟩ = (markWords.map Value.string)[i]? := by
  rw [World.var?_cell gmarks h.marks i]; simp
theorem ggram : Tryz.prog.globalNamed "chancel/parse.errGrammar" = some 0 := by kernel_rfl
theorem GL.gram {w : World} (h : GL w) : ∃ a, w.cell? ⟨0, 0, none⟩ = some (.iface 283 (.pointer (some a))) := h.egram.imp fun a ha => by rw [World.var?_cell ggram ha 0]; rfl
end Go.Proofs.YtchekgnacodolaaGreatDoor.X

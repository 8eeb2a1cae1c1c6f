-- Joined by our own program (wip/tools/prune.py) out of the seat's texts, less what this claim doesn't name.
import Derived.Test.YtchekgnacodolaaGreatDoorRows
import Derived.WalkSmall
import Derived.Lib.LaidTab
import Derived.Lib.ItoaNum
import Derived.Test.YtchekgnacodolaaGreatDoorJ6
section
namespace Go.Proofs.YtchekgnacodolaaGreatDoor.X
open Go.RowKit Go.Proofs.YtchekgnacodolaaGreatDoorW.PrintWords
def keyWords : List ByteArray := [⟨#[102, 117, 110]⟩, ⟨#[108, 101, 116]⟩, ⟨#[105, 110]⟩, ⟨#[105, 102]⟩, ⟨#[116, 104, 101, 110]⟩, ⟨#[101, 108, 115, 101]⟩, ⟨#[119, 104, 105, 108, 101]⟩, ⟨#[100, 111]⟩, ⟨#[114, 97, 105, 115, 101]⟩, ⟨#[116, 114, 121]⟩, ⟨#[119, 105, 116, 104]⟩, ⟨#[105, 110, 112, 117, 116]⟩, ⟨#[99, 101, 108, 108]⟩, ⟨#[100, 101, 102]⟩]
def markWords : List ByteArray := [⟨#[61, 62]⟩, ⟨#[58, 61]⟩, ⟨#[40]⟩, ⟨#[41]⟩, ⟨#[59]⟩, ⟨#[58]⟩, ⟨#[61]⟩, ⟨#[33]⟩, ⟨#[43]⟩, ⟨#[45]⟩, ⟨#[42]⟩, ⟨#[60]⟩, ⟨#[46]⟩]
structure GL (w : World) : Prop where
  keys : w.var? Tryz.prog "chancel/lex.keys" = some (keyWords.map Value.string).toArray
  marks : w.var? Tryz.prog "chancel/lex.marks" = some (markWords.map Value.string).toArray
  pow : Lib.TabIs Tryz.prog w "internal/strconv.uint64pow10" .u64 Lib.pow10Tab
  esyn : ∃ tp p, w.var? Tryz.prog "strconv.ErrSyntax" = some #[.iface tp p]
  eran : ∃ tp p, w.var? Tryz.prog "strconv.ErrRange" = some #[.iface tp p]
  maxl : ∃ m, w.cell? ⟨7, 0, none⟩ = some (.int .i64 m)
  egram : ∃ a, w.var? Tryz.prog "chancel/parse.errGrammar" = some #[.iface 283 (.pointer (some a))]
  etyp : w.cell? ⟨3, 0, none⟩ = some (.iface 240 (.agg #[typeHandle Tryz.prog 94]))
theorem var?_kept {P : Program} {w w1 : World} {n : String} {cs : Array Value} (hb : Below w.heap.size w w1) (hv : w.var? P n = some cs) : w1.var? P n = some cs := by
  unfold World.var? at hv ⊢
  cases hg : P.globalNamed n with
  | none => rw [hg] at hv; cases hv
  | some g =>
    rw [hg] at hv
    simp only [Option.bind_some] at hv ⊢
    have hlt : g < w.heap.size := by
      rcases Nat.lt_or_ge g w.heap.size with h | h
      · exact h
      · rw [Array.getElem?_eq_none h] at hv; cases hv
    rw [hb.block g hlt]
    exact hv
theorem GL.below {w w1 : World} (h : GL w) (hb : Below w.heap.size w w1) : GL w1 := by
  constructor
  · exact var?_kept hb h.keys
  · exact var?_kept hb h.marks
  · exact var?_kept hb h.pow
  · exact h.esyn.imp fun _ => Exists.imp fun _ => var?_kept hb
  · exact h.eran.imp fun _ => Exists.imp fun _ => var?_kept hb
  · exact h.maxl.imp fun _ => pw_cell_below hb
  · exact h.egram.imp fun _ => var?_kept hb
  · exact pw_cell_below hb h.etyp
theorem GL.alloc {w : World} (h : GL w) (o : Obj) : GL (w.alloc o) := h.below (below_alloc (Below.refl _ _) o)
theorem GL.drewN {w : World} (h : GL w) (n : Nat) : GL (w.drewN n) := h.below (pw_below_drewN (Below.refl _ _) n)
theorem GL.drew {w : World} (h : GL w) : GL w.drew := h.below (below_drew (Below.refl _ _))
theorem gkeys : Tryz.prog.globalNamed "chancel/lex.keys" = some 5 := by kernel_rfl
theorem gmarks : Tryz.prog.globalNamed "chancel/lex.marks" = some 4 := by kernel_rfl
theorem GL.key {w : World} (h : GL w) (i : Nat) : w.cell? ⟨5, i, none⟩ = (keyWords.map Value.string)[i]? := by
  rw [World.var?_cell gkeys h.keys i]; simp
theorem GL.mark {w : World} (h : GL w) (i : Nat) : w.cell? ⟨4, i, none⟩ = (markWords.map Value.string)[i]? := by
  rw [World.var?_cell gmarks h.marks i]; simp
theorem ggram : Tryz.prog.globalNamed "chancel/parse.errGrammar" = some 0 := by kernel_rfl
theorem GL.gram {w : World} (h : GL w) : ∃ a, w.cell? ⟨0, 0, none⟩ = some (.iface 283 (.pointer (some a))) := h.egram.imp fun a ha => by rw [World.var?_cell ggram ha 0]; rfl
end Go.Proofs.YtchekgnacodolaaGreatDoor.X
end
section
namespace Go.Proofs.YtchekgnacodolaaGreatDoor.X
open Go.RowKit Go.Proofs.YtchekgnacodolaaGreatDoorW.PrintWords
set_option linter.unusedSimpArgs false
set_option linter.unusedVariables false
theorem add_block (a : Addr) (n : Nat) : (a.add n).block = a.block := by unfold Addr.add; split <;> rfl
structure Past (g : Nat) (w w' : World) : Prop where
  os : w'.os = w.os
  tape : w'.tape = w.tape
  output : w'.output = w.output
  size : w.heap.size ≤ w'.heap.size
  block : ∀ k, k < w.heap.size → k ≠ g → w'.heap[k]? = w.heap[k]?
theorem Past.refl (g : Nat) (w : World) : Past g w w := ⟨rfl, rfl, rfl, Nat.le_refl _, fun _ _ _ => rfl⟩
theorem Past.trans {g : Nat} {a b c : World} (h : Past g a b) (k : Past g b c) : Past g a c :=
  ⟨k.os.trans h.os, k.tape.trans h.tape, k.output.trans h.output, Nat.le_trans h.size k.size, fun i hi hg => (k.block i (Nat.lt_of_lt_of_le hi h.size) hg).trans (h.block i hi hg)⟩
theorem Past.of_below {g : Nat} {w w' : World} (h : Below w.heap.size w w') : Past g w w' := ⟨h.os, h.tape, h.output, h.size, fun k hk _ => h.block k hk⟩
theorem Past.below {g B : Nat} {w w' : World} (h : Past g w w') (hB : B ≤ w.heap.size) (hg : B ≤ g) : Below B w w' := ⟨h.os, h.tape, h.output, h.size, fun k hk => h.block k (by omega) (by omega)⟩
theorem Past.set {g : Nat} {w w' : World} (h : Past g w w') (j : Nat) (u : Value) : Past g w (w'.setCell ⟨g, j, none⟩ u) :=
  ⟨h.os, h.tape, h.output, by simpa [World.setCell] using h.size, fun k hk hg => (Below.heap_setCell w' ⟨g, j, none⟩ u k hg).trans (h.block k hk hg)⟩
theorem Past.alloc {g : Nat} {w w' : World} (h : Past g w w') (o : Obj) : Past g w (w'.alloc o) := h.trans (Past.of_below (below_alloc (Below.refl _ _) o))
theorem Past.drewN {g : Nat} {w w' : World} (h : Past g w w') (n : Nat) : Past g w (w'.drewN n) := h.trans ⟨rfl, rfl, rfl, Nat.le_refl _, fun _ _ _ => rfl⟩
theorem Past.new {g : Nat} {w w' : World} (h : Past g w w') {a : Addr} (ha : w.heap.size ≤ a.block) (u : Value) : Past g w (w'.setCell a u) :=
  ⟨h.os, h.tape, h.output, by simpa [World.setCell] using h.size, fun k hk hg => (Below.heap_setCell w' a u k (by omega)).trans (h.block k hk hg)⟩
theorem Past.drew {g : Nat} {w w' : World} (h : Past g w w') : Past g w w'.drew := h.drewN 1
structure Same (base : Nat) (w w' : World) : Prop where
  size : w.heap.size ≤ w'.heap.size
  block : ∀ b, base ≤ b → b < w.heap.size → w'.heap[b]? = w.heap[b]?
theorem Same.refl (base : Nat) (w : World) : Same base w w := ⟨Nat.le_refl _, fun _ _ _ => rfl⟩
theorem Same.trans {base : Nat} {a b c : World} (h : Same base a b) (k : Same base b c) : Same base a c := ⟨Nat.le_trans h.size k.size, fun i hi hl => (k.block i hi (Nat.lt_of_lt_of_le hl h.size)).trans (h.block i hi hl)⟩
theorem Same.of_past {g base : Nat} {w w' : World} (h : Past g w w') (hg : g < base) : Same base w w' := ⟨h.size, fun b hb hl => h.block b hl (by omega)⟩
theorem Same.past {g base : Nat} {w w1 w' : World} (k : Same base w w1) (h : Past g w1 w') (hg : g < base) : Same base w w' := k.trans (Same.of_past h hg)
theorem Same.of_below {base : Nat} {w w' : World} (h : Below w.heap.size w w') : Same base w w' := ⟨h.size, fun b _ hl => h.block b hl⟩
theorem Same.alloc {base : Nat} {w w' : World} (h : Same base w w') (o : Obj) : Same base w (w'.alloc o) := h.trans (Same.of_below (below_alloc (Below.refl _ _) o))
theorem Same.drewN {base : Nat} {w w' : World} (h : Same base w w') (n : Nat) : Same base w (w'.drewN n) := ⟨h.size, h.block⟩
theorem Same.drew {base : Nat} {w w' : World} (h : Same base w w') : Same base w w'.drew := ⟨h.size, h.block⟩
theorem Same.set {base : Nat} {w w' : World} (h : Same base w w') {a : Addr} (ha : a.block < base) (u : Value) : Same base w (w'.setCell a u) :=
  ⟨by simpa [World.setCell] using h.size, fun b hb hl => (Below.heap_setCell w' a u b (by omega)).trans (h.block b hb hl)⟩
theorem Same.new {base : Nat} {w w' : World} (h : Same base w w') {a : Addr} (ha : w.heap.size ≤ a.block) (u : Value) : Same base w (w'.setCell a u) :=
  ⟨by simpa [World.setCell] using h.size, fun b hb hl => (Below.heap_setCell w' a u b (by omega)).trans (h.block b hb hl)⟩
theorem Same.mono {base base' : Nat} {w w' : World} (h : Same base w w') (hb : base ≤ base') : Same base' w w' := ⟨h.size, fun b h1 h2 => h.block b (by omega) h2⟩
end Go.Proofs.YtchekgnacodolaaGreatDoor.X
end

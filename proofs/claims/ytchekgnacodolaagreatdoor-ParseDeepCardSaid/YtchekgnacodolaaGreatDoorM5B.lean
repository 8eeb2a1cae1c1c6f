import Derived.Test.YtchekgnacodolaaGreatDoorGL
import Derived.Test.YtchekgnacodolaaGreatDoorM5A
import Derived.Test.YtchekgnacodolaaGreatDoorWRepsOne
import Derived.Test.YtchekgnacodolaaGreatDoorProg
import Derived.Test.YtchekgnacodolaaGreatDoorWMore
import Derived.BigQuiet
import Derived.StillTailTactics
import Derived.Outline
import Derived.Deep.RegionHeld3
import Derived.Deep.RegionWith
/- What a reader may have turned: its own block alone. -/
namespace Go.Proofs.YtchekgnacodolaaGreatDoor.X
open Go.RowKit Go.Proofs.YtchekgnacodolaaGreatDoorW.PrintWords
set_option linter.unusedSimpArgs false
set_option linter.unusedVariables false

theorem add_block (a : Addr) (n : Nat) : (a.add n).block = a.block := by unfold Addr.add; split <;> rfl
/-- All but the block g is as it was. -/
structure Past (g : Nat) (w w' : World) : Prop where
  os : w'.os = w.os
  tape : w'.tape = w.tape
  output : w'.output = w.output
  size : w.heap.size ≤ w'.heap.size
  block : ∀ k, k < w.heap.size → k ≠ g → w'.heap[k]? = w.heap[k]?
theorem Past.refl (g : Nat) (w : World) : Past g w w := ⟨rfl, rfl, rfl, Nat.le_refl _, fun _ _ _ => rfl⟩
theorem Past.trans {g : Nat} {a b c : World} (h : Past g a b) (k : Past g b c) : Past g a c :=
  ⟨k.os.trans h.os, k.tape.trans h.tape, k.output.trans h.output, Nat.le_trans h.size k.size, fun i hi hg => (k.block i (Nat.lt_of_lt_of_le hi h.size) hg).trans (h.block i hi hg)⟩
theorem Past.of_below {g : Nat} {w w' : World} (h : Below w.heap.size w w') : Past g w w' := ⟨h.os, h.tape, h.output, h.size, fun k hk _ => h.block k hk⟩
theorem Past.below {g B : Nat} {w w' : World} (h : Past g w w') (hB : B ≤ w.heap.size) (hg : B ≤ g) : Below B w w' := ⟨h.os, h.tape, h.output, h.size, fun k hk => h.block k (by omega) (by omega)⟩
theorem Past.set {g : Nat} {w w' : World} (h : Past g w w') (j : Nat) (u : Value) : Past g w (w'.setCell ⟨g, j, none⟩ u) :=
  ⟨h.os, h.tape, h.output, by simpa [World.setCell] using h.size, fun k hk hg => (Below.heap_setCell w' ⟨g, j, none⟩ u k hg).trans (h.block k hk hg)⟩
theorem Past.alloc {g : Nat} {w w' : World} (h : Past g w w') (o : Obj) : Past g w (w'.alloc o) := h.trans (Past.of_below (below_alloc (Below.refl _ _) o))
theorem Past.drewN {g : Nat} {w w' : World} (h : Past g w w') (n : Nat) : Past g w (w'.drewN n) := h.trans ⟨rfl, rfl, rfl, Nat.le_refl _, fun _ _ _ => rfl⟩
theorem Past.new {g : Nat} {w w' : World} (h : Past g w w') {a : Addr} (ha : w.heap.size ≤ a.block) (u : Value) : Past g w (w'.setCell a u) :=
  ⟨h.os, h.tape, h.output, by simpa [World.setCell] using h.size, fun k hk hg => (Below.heap_setCell w' a u k (by omega)).trans (h.block k hk hg)⟩
theorem Past.drew {g : Nat} {w w' : World} (h : Past g w w') : Past g w w'.drew := h.drewN 1
/-- What was made from base on is as it was. -/
structure Same (base : Nat) (w w' : World) : Prop where
  size : w.heap.size ≤ w'.heap.size
  block : ∀ b, base ≤ b → b < w.heap.size → w'.heap[b]? = w.heap[b]?
theorem Same.refl (base : Nat) (w : World) : Same base w w := ⟨Nat.le_refl _, fun _ _ _ => rfl⟩
theorem Same.trans {base : Nat} {a b c : World} (h : Same base a b) (k : Same base b c) : Same base a c := ⟨Nat.le_trans h.size k.size, fun i hi hl => (k.block i hi (Nat.lt_of_lt_of_le hl h.size)).trans (h.block i hi hl)⟩
theorem Same.of_past {g base : Nat} {w w' : World} (h : Past g w w') (hg : g < base) : Same base w w' := ⟨h.size, fun b hb hl => h.block b hl (by omega)⟩
theorem Same.past {g base : Nat} {w w1 w' : World} (k : Same base w w1) (h : Past g w1 w') (hg : g < base) : Same base w w' := k.trans (Same.of_past h hg)
theorem Same.of_below {base : Nat} {w w' : World} (h : Below w.heap.size w w') : Same base w w' := ⟨h.size, fun b _ hl => h.block b hl⟩
theorem Same.alloc {base : Nat} {w w' : World} (h : Same base w w') (o : Obj) : Same base w (w'.alloc o) := h.trans (Same.of_below (below_alloc (Below.refl _ _) o))
theorem Same.drewN {base : Nat} {w w' : World} (h : Same base w w') (n : Nat) : Same base w (w'.drewN n) := ⟨h.size, h.block⟩
theorem Same.drew {base : Nat} {w w' : World} (h : Same base w w') : Same base w w'.drew := ⟨h.size, h.block⟩
theorem Same.set {base : Nat} {w w' : World} (h : Same base w w') {a : Addr} (ha : a.block < base) (u : Value) : Same base w (w'.setCell a u) :=
  ⟨by simpa [World.setCell] using h.size, fun b hb hl => (Below.heap_setCell w' a u b (by omega)).trans (h.block b hb hl)⟩
theorem Same.new {base : Nat} {w w' : World} (h : Same base w w') {a : Addr} (ha : w.heap.size ≤ a.block) (u : Value) : Same base w (w'.setCell a u) :=
  ⟨by simpa [World.setCell] using h.size, fun b hb hl => (Below.heap_setCell w' a u b (by omega)).trans (h.block b hb hl)⟩
theorem Same.mono {base base' : Nat} {w w' : World} (h : Same base w w') (hb : base ≤ base') : Same base' w w' := ⟨h.size, fun b h1 h2 => h.block b (by omega) h2⟩
end Go.Proofs.YtchekgnacodolaaGreatDoor.X
/- A reader of chancel/parse: what its block holds, and what it may have turned. -/
namespace Go.Proofs.YtchekgnacodolaaGreatDoor.X
open Go.RowKit Go.Proofs.YtchekgnacodolaaGreatDoorW.PrintWords
set_option linter.unusedSimpArgs false
set_option linter.unusedVariables false

theorem cell_lt {w : World} {a : Addr} {u : Value} (h : w.cell? a = some u) : a.block < w.heap.size := World.block_lt_of_cell? w a h
abbrev tokV (t : TokT) : Value := .agg #[.int .i64 t.f0, .string t.f1, .int .i64 t.f2]
/-- The block g holds a reader that has gone by p and has s ahead; the tokens lie in another block; E: what the grammar's error is. -/
structure Rd (g : Nat) (A : Option Addr) (c : Nat) (E : Value) (p s : List TokT) (w : World) : Prop where
  blk : w.heap[g]? = some (.cells #[.slice A (p ++ s).length c, .int .i64 (p.length : Int)] 144 (0, 0))
  rd : Reads w A c (p ++ s)
  far : 0 < (p ++ s).length → ∀ ad, A = some ad → ad.block ≠ g
  err : w.cell? ⟨0, 0, none⟩ = some E
  errg : 0 ≠ g
  ei : ∃ t v, E = .iface t v
section
variable {w w1 : World} {g : Nat} {A : Option Addr} {c : Nat} {E : Value} {p s : List TokT}
theorem Rd.lt (h : Rd g A c E p s w) : g < w.heap.size := blk_lt h.blk
theorem Rd.c0 (h : Rd g A c E p s w) : w.cell? ⟨g, 0, none⟩ = some (.slice A (p ++ s).length c) := by rw [blk_cell h.blk]; rfl
theorem Rd.c1 (h : Rd g A c E p s w) : w.cell? ⟨g, 1, none⟩ = some (.int .i64 (p.length : Int)) := by rw [blk_cell h.blk]; rfl
theorem Rd.fz (h : Rd g A c E p s w) (j : Nat) : w.frozen? ⟨g, j, none⟩ = false := blk_frozen h.blk j
theorem Reads.below' (h : Reads w A c (p ++ s)) (hb : Below w.heap.size w w1) : Reads w1 A c (p ++ s) := h.below hb
theorem Rd.below (h : Rd g A c E p s w) (hb : Below w.heap.size w w1) : Rd g A c E p s w1 :=
  ⟨blk_below h.blk hb, h.rd.below hb, h.far, pw_cell_below hb h.err, h.errg, h.ei⟩
theorem Reads.past {l : List TokT} (h : Reads w A c l) (hg : 0 < l.length → ∀ ad, A = some ad → ad.block ≠ g) (hp : Past g w w1) : Reads w1 A c l := by
  refine ⟨⟨h.1.1, h.1.2.1, fun h0 => ?_⟩, h.2⟩
  obtain ⟨ad, hA, hc⟩ := h.1.2.2 h0
  refine ⟨ad, hA, fun j p hj => ?_⟩
  obtain ⟨cs, hl, hk, hcell⟩ := hc j p hj
  refine ⟨cs, hl, ?_, fun i u hi => ?_⟩
  · have := k106_open hk
    rw [this]; exact k106_mk w1 p
  · have h1 := hcell i u hi
    have hlt := cell_lt h1
    rw [World.cell?_of_block (w := w) (by rw [add_block] at hlt ⊢; exact hp.block _ hlt (hg h0 ad hA))]
    exact h1
/-- One step on. -/
theorem Rd.step {x : TokT} (h : Rd g A c E p (x :: s) w) : Rd g A c E (p ++ [x]) s (w.setCell ⟨g, 1, none⟩ (.int .i64 ((p.length : Int) + 1))) := by
  have e : p ++ [x] ++ s = p ++ x :: s := by simp
  have hp : Past g w (w.setCell ⟨g, 1, none⟩ (.int .i64 ((p.length : Int) + 1))) := (Past.refl g w).set 1 _
  refine ⟨?_, by rw [e]; exact h.rd.past h.far hp, by rw [e]; exact h.far, ?_, h.errg, h.ei⟩
  · have := blk_set h.blk 1 (.int .i64 ((p.length : Int) + 1))
    rw [this, e]
    have hl : (((p ++ [x]).length : Nat) : Int) = (p.length : Int) + 1 := by rw [List.length_append]; rfl
    rw [hl]; rfl
  · have hlt := cell_lt h.err
    rw [World.cell?_of_block (w := w) (hp.block _ hlt h.errg)]
    exact h.err
theorem Rd.len (h : Rd g A c E p s w) : (p ++ s).length ≤ 9223372036854775807 := h.rd.1.2.1
theorem Rd.get {x : TokT} (h : Rd g A c E p (x :: s) w) : ∃ ad, A = some ad ∧ w.cell? (ad.add (p.length * 3)) = some (.int .i64 x.f0) ∧ w.cell? ⟨(ad.add (p.length * 3)).block, (ad.add (p.length * 3)).off + 1, none⟩ = some (.string x.f1) ∧ w.cell? ⟨(ad.add (p.length * 3)).block, (ad.add (p.length * 3)).off + 2, none⟩ = some (.int .i64 x.f2) := by
  obtain ⟨ad, e, h0, h1, h2⟩ := at_T106 h.rd.1 (p.length : Int) (by omega) (by rw [List.length_append, List.length_cons]; omega)
  have hr : rd_T106 (p ++ x :: s) (p.length : Int) = x := by
    unfold rd_T106
    rw [Int.toNat_natCast, List.getD_eq_getElem?_getD, List.getElem?_append_right (Nat.le_refl _), Nat.sub_self]; rfl
  rw [hr] at h0 h1 h2
  rw [Int.toNat_natCast] at h0 h1 h2
  exact ⟨ad, e, h0, h1, h2⟩
end
/-- What 'take' leaves. -/
def Took (g : Nat) (A : Option Addr) (c : Nat) (E : Value) (p s : List TokT) (w : World) (b : Bool) (e : Ending) (w' : World) : Prop :=
  e = .returned (.bool b) ∧ Past g w w' ∧ (b = false → Rd g A c E p s w') ∧ (b = true → ∃ x r, s = x :: r ∧ Rd g A c E (p ++ [x]) r w')
/-- A term that was made from base on: it reads so, whatever becomes of what was there before. -/
def TmV (base : Nat) (w : World) (t : Tm) (v : Value) : Prop := ∃ A c, v = .agg #[.int .i64 t.f0, .string t.f1, .int .i64 t.f2, .slice A t.f3.length c] ∧ t.f3.length ≤ c ∧ ∀ w2, Same base w w2 → Kd.C k26 w2 A t.f3.length t.f3
theorem TmV.same {base : Nat} {w w1 : World} {t : Tm} {v : Value} (h : TmV base w t v) (hp : Same base w w1) : TmV base w1 t v := by
  obtain ⟨A, c, rfl, hl, hC⟩ := h
  exact ⟨A, c, rfl, hl, fun w2 h2 => hC w2 (hp.trans h2)⟩
theorem TmV.mono {base base' : Nat} {w : World} {t : Tm} {v : Value} (h : TmV base w t v) (hb : base' ≤ base) : TmV base' w t v := by
  obtain ⟨A, c, rfl, hl, hC⟩ := h
  exact ⟨A, c, rfl, hl, fun w2 h2 => hC w2 (h2.mono hb)⟩
theorem C_nil (w : World) : Kd.C k26 w none 0 [] := ⟨rfl, by decide, fun h => absurd h (by decide)⟩
theorem C_lit {w : World} {b : Nat} {ts : List Tm} {cs : Array Value} {T : TypeId} {fr : Nat × Nat} (hb : w.heap[b]? = some (.cells cs T fr)) (hr : Reps (k26.K w) 4 ts cs.toList) (hn : ts.length ≤ 9223372036854775807) : Kd.C k26 w (some ⟨b, 0, none⟩) ts.length ts := by
  refine ⟨rfl, hn, fun _ => ⟨⟨b, 0, none⟩, rfl, fun j p hj => ⟨(cs.toList.drop (j * 4)).take 4, ?_, hr.2 j p hj, fun i u hi => ?_⟩⟩⟩
  · exact k26.K_len (hr.2 j p hj)
  · rw [List.getElem?_take] at hi
    split at hi
    · rw [List.getElem?_drop] at hi
      show w.cell? ((⟨b, 0, none⟩ : Addr).add (j * 4 + i)) = _
      rw [add_plain, World.cell?, hb]
      simpa using hi
    · cases hi
theorem blk_past {g b : Nat} {w w1 : World} {o : Obj} (h : w.heap[b]? = some o) (hp : Past g w w1) (hg : b ≠ g) : w1.heap[b]? = some o := (hp.block b (blk_lt h) hg).trans h
theorem blk_same {base b : Nat} {w w1 : World} {o : Obj} (h : w.heap[b]? = some o) (hp : Same base w w1) (hg : base ≤ b) : w1.heap[b]? = some o := (hp.block b hg (blk_lt h)).trans h
theorem TmV.K {base : Nat} {w w2 : World} {t : Tm} {A : Option Addr} {c : Nat} (hl : t.f3.length ≤ c) (hC : ∀ w2, Same base w w2 → Kd.C k26 w2 A t.f3.length t.f3) (hp : Same base w w2) : k26.K w2 t [.int .i64 t.f0, .string t.f1, .int .i64 t.f2, .slice A t.f3.length c] := k26_mk w2 t hl (hC w2 hp)
theorem TmV.leaf (base : Nat) (w : World) (k : Int) (nm : ByteArray) (n : Int) : TmV base w ⟨k, nm, n, []⟩ (.agg #[.int .i64 k, .string nm, .int .i64 n, .slice none 0 0]) := ⟨none, 0, rfl, Nat.le_refl _, fun w2 _ => C_nil w2⟩
theorem TmV.kids1 {base b : Nat} {w : World} {a : Tm} {A : Option Addr} {c : Nat} {fr : Nat × Nat} (k : Int) (nm : ByteArray) (h0 : TmV base w a (.agg #[.int .i64 a.f0, .string a.f1, .int .i64 a.f2, .slice A a.f3.length c]))
    (hb : w.heap[b]? = some (.cells #[.int .i64 a.f0, .string a.f1, .int .i64 a.f2, .slice A a.f3.length c] 26 fr)) (hg : base ≤ b) :
    TmV base w (tm k nm [a]) (.agg #[.int .i64 k, .string nm, .int .i64 0, .slice (some ⟨b, 0, none⟩) 1 1]) := by
  obtain ⟨_, _, e0, hl0, hC0⟩ := h0
  simp only [Value.agg.injEq, Array.mk.injEq, List.cons.injEq, Value.slice.injEq, true_and, and_true] at e0
  obtain ⟨rfl, rfl⟩ := e0
  exact ⟨_, 1, rfl, Nat.le_refl _, fun w2 hp => C_lit (blk_same hb hp hg) (Reps.c4 (TmV.K hl0 hC0 hp) (Reps.none _ _)) (by show (1 : Nat) ≤ _; decide)⟩
theorem TmV.kids2 {base b : Nat} {w : World} {a a' : Tm} {A A' : Option Addr} {c c' : Nat} {fr : Nat × Nat} (k : Int) (nm : ByteArray) (h0 : TmV base w a (.agg #[.int .i64 a.f0, .string a.f1, .int .i64 a.f2, .slice A a.f3.length c])) (h1 : TmV base w a' (.agg #[.int .i64 a'.f0, .string a'.f1, .int .i64 a'.f2, .slice A' a'.f3.length c']))
    (hb : w.heap[b]? = some (.cells #[.int .i64 a.f0, .string a.f1, .int .i64 a.f2, .slice A a.f3.length c, .int .i64 a'.f0, .string a'.f1, .int .i64 a'.f2, .slice A' a'.f3.length c'] 26 fr)) (hg : base ≤ b) :
    TmV base w (tm k nm [a, a']) (.agg #[.int .i64 k, .string nm, .int .i64 0, .slice (some ⟨b, 0, none⟩) 2 2]) := by
  obtain ⟨_, _, e0, hl0, hC0⟩ := h0
  obtain ⟨_, _, e1, hl1, hC1⟩ := h1
  simp only [Value.agg.injEq, Array.mk.injEq, List.cons.injEq, Value.slice.injEq, true_and, and_true] at e0 e1
  obtain ⟨rfl, rfl⟩ := e0
  obtain ⟨rfl, rfl⟩ := e1
  exact ⟨_, 2, rfl, Nat.le_refl _, fun w2 hp => C_lit (blk_same hb hp hg) (Reps.c4 (TmV.K hl0 hC0 hp) (Reps.c4 (TmV.K hl1 hC1 hp) (Reps.none _ _))) (by show (2 : Nat) ≤ _; decide)⟩
theorem TmV.kids3 {base b : Nat} {w : World} {a a' a2 : Tm} {A A' A2 : Option Addr} {c c' c2 : Nat} {fr : Nat × Nat} (k : Int) (nm : ByteArray) (h0 : TmV base w a (.agg #[.int .i64 a.f0, .string a.f1, .int .i64 a.f2, .slice A a.f3.length c])) (h1 : TmV base w a' (.agg #[.int .i64 a'.f0, .string a'.f1, .int .i64 a'.f2, .slice A' a'.f3.length c'])) (h2 : TmV base w a2 (.agg #[.int .i64 a2.f0, .string a2.f1, .int .i64 a2.f2, .slice A2 a2.f3.length c2]))
    (hb : w.heap[b]? = some (.cells #[.int .i64 a.f0, .string a.f1, .int .i64 a.f2, .slice A a.f3.length c, .int .i64 a'.f0, .string a'.f1, .int .i64 a'.f2, .slice A' a'.f3.length c', .int .i64 a2.f0, .string a2.f1, .int .i64 a2.f2, .slice A2 a2.f3.length c2] 26 fr)) (hg : base ≤ b) :
    TmV base w (tm k nm [a, a', a2]) (.agg #[.int .i64 k, .string nm, .int .i64 0, .slice (some ⟨b, 0, none⟩) 3 3]) := by
  obtain ⟨_, _, e0, hl0, hC0⟩ := h0
  obtain ⟨_, _, e1, hl1, hC1⟩ := h1
  obtain ⟨_, _, e2, hl2, hC2⟩ := h2
  simp only [Value.agg.injEq, Array.mk.injEq, List.cons.injEq, Value.slice.injEq, true_and, and_true] at e0 e1 e2
  obtain ⟨rfl, rfl⟩ := e0
  obtain ⟨rfl, rfl⟩ := e1
  obtain ⟨rfl, rfl⟩ := e2
  exact ⟨_, 3, rfl, Nat.le_refl _, fun w2 hp => C_lit (blk_same hb hp hg) (Reps.c4 (TmV.K hl0 hC0 hp) (Reps.c4 (TmV.K hl1 hC1 hp) (Reps.c4 (TmV.K hl2 hC2 hp) (Reps.none _ _)))) (by show (3 : Nat) ≤ _; decide)⟩
/-- The grammar does not go on. -/
def Fails (g : Nat) (E : Value) (w : World) (e : Ending) (w' : World) : Prop :=
  Past g w w' ∧ ∃ b n, e = .panicked [{ v := .iface 140 (.pointer (some ⟨b, 0, none⟩)), recovered := false }] ∧ w'.heap[b]? = some (.cells #[.int .i64 n, E] 188 (0, 0))
theorem Fails.ahead {g : Nat} {E : Value} {w w1 w' : World} {e : Ending} (h : Fails g E w1 e w') (hp : Past g w w1) : Fails g E w e w' := ⟨hp.trans h.1, h.2⟩
/-- What a reader's method leaves. -/
def Out (g : Nat) (A : Option Addr) (c : Nat) (E : Value) (p s : List TokT) (w : World) (res : Option (Tm × List TokT)) (e : Ending) (w' : World) : Prop :=
  match res with
  | some (t, s') => Past g w w' ∧ ∃ v p', e = .returned v ∧ TmV w.heap.size w' t v ∧ p' ++ s' = p ++ s ∧ Rd g A c E p' s' w'
  | none => Fails g E w e w'
theorem Rd.old {g : Nat} {A : Option Addr} {c : Nat} {E : Value} {p s p0 s0 : List TokT} {w0 w w1 : World} (h0 : Rd g A c E p0 s0 w0) (hpp : p ++ s = p0 ++ s0) (h : Rd g A c E p s w) (hb : Below w0.heap.size w w1) : Rd g A c E p s w1 := by
  have hc : ∀ {a : Addr} {u : Value}, w.cell? a = some u → a.block < w0.heap.size → w1.cell? a = some u := fun {a u} hu hl => (hb.cell hl).trans hu
  refine ⟨(hb.block g h0.lt).trans h.blk, ⟨⟨h.rd.1.1, h.rd.1.2.1, fun hn => ?_⟩, h.rd.2⟩, h.far, hc h.err (cell_lt h0.err), h.errg, h.ei⟩
  obtain ⟨ad, hA, hcc⟩ := h.rd.1.2.2 hn
  refine ⟨ad, hA, fun j q hj => ?_⟩
  obtain ⟨cs, hl, hk, hcell⟩ := hcc j q hj
  have hk2 := k106_open hk
  refine ⟨cs, hl, by rw [hk2]; exact k106_mk w1 q, fun i u hi => hc (hcell i u hi) ?_⟩
  rw [add_block]
  obtain ⟨ad0, hA0, hcc0⟩ := h0.rd.1.2.2 (by rw [← hpp]; exact hn)
  rw [hA] at hA0
  injection hA0 with e0
  subst e0
  obtain ⟨cs0, hl0, hk0, hcell0⟩ := hcc0 j q (by rw [← hpp]; exact hj)
  have h00 := hcell0 0 _ (by rw [k106_open hk0]; rfl)
  have := cell_lt h00
  rwa [add_block] at this
theorem Past.belowN {g : Nat} {w0 w w1 : World} (h : Past g w0 w) (hb : Below w0.heap.size w w1) : Past g w0 w1 :=
  ⟨hb.os.trans h.os, hb.tape.trans h.tape, hb.output.trans h.output, Nat.le_trans h.size hb.size, fun k hk hg => (hb.block k hk).trans (h.block k hk hg)⟩
theorem Out.ret {g : Nat} {A : Option Addr} {c : Nat} {E : Value} {p s p' s' : List TokT} {w w3 w5 : World} {t : Tm} {v : Value} (h0 : Rd g A c E p s w) (hP : Past g w w3) (hb : Below w.heap.size w3 w5) (hpp : p' ++ s' = p ++ s) (hr : Rd g A c E p' s' w3) (hT : TmV w.heap.size w5 t v) : Out g A c E p s w (some (t, s')) (.returned v) w5 :=
  ⟨hP.belowN hb, v, p', rfl, hT, hpp, h0.old hpp hr hb⟩
end Go.Proofs.YtchekgnacodolaaGreatDoor.X
/- The small functions of chancel/parse's reader: peek, is, take. -/
namespace Go.Proofs.YtchekgnacodolaaGreatDoor.X
open Go.RowKit Go.Proofs.YtchekgnacodolaaGreatDoorW.PrintWords Go.Proofs.YtchekgnacodolaaGreatDoorW.PrintLast Go.Proofs.YtchekgnacodolaaGreatDoorW.PrintMore
set_option linter.unusedSimpArgs false
set_option linter.unusedVariables false

set_option maxRecDepth 100000 in
set_option maxHeartbeats 400000 in
theorem peekC (g : Nat) (A : Option Addr) (c : Nat) (E : Value) (p s : List TokT) (w : World) (h : Rd g A c E p s w) :
    Calls Tryz.prog 198 #[.pointer (some ⟨g, 0, none⟩)] w fun e w' => e = .returned (.agg #[.int .i64 (peekL s).f0, .string (peekL s).f1, .int .i64 (peekL s).f2]) ∧ Below w.heap.size w w' := by
  have h0 := h.c0
  have h1 := h.c1
  have hlt := h.lt
  have hlen := h.len
  cases s with
  | nil =>
    have hd : decide ((p ++ []).length ≤ p.length) = true := by simp
    show Calls _ _ _ _ fun e w' => e = .returned (.agg #[.int .i64 0, .string ⟨#[]⟩, .int .i64 0]) ∧ _
    clear h
    rw [List.append_nil] at *
    go_enter Tryz.func198, Tryz.ntmps198
    go_wp2_with fail
    go_quiet (fail)
    go_wp2_with fail
    refine bodyPost_ret (v := tokV ⟨0, ⟨#[]⟩, 0⟩) (by simp [results, Tryz.results198, go_sem]) rfl ⟨rfl, ?_⟩
    exact (((pw_below_drewN (below_alloc (Below.refl _ _) _) _).setCell (Nat.le_refl _) _).setCell (Nat.le_refl _) _).setCell (Nat.le_refl _) _
  | cons x s =>
    obtain ⟨ad, rfl, k0, k1, k2⟩ := h.get
    have hd : decide ((p ++ x :: s).length ≤ p.length) = false := by simp
    have p1 : (0 ≤ (p.length : Int)) = True := eq_true (by omega)
    have p2 : ((p.length : Int) < ((p ++ x :: s).length : Int)) = True := eq_true (by simp; omega)
    show Calls _ _ _ _ fun e w' => e = .returned (.agg #[.int .i64 x.f0, .string x.f1, .int .i64 x.f2]) ∧ _
    have n0 := World.new_ne w _ h0
    have n1 := World.new_ne w _ k0
    have n2 := World.new_ne w _ k1
    have n3 := World.new_ne w _ k2
    clear h
    generalize (p ++ x :: s).length = n at *
    generalize p.length = i at *
    go_enter Tryz.func198, Tryz.ntmps198
    go_wp2_with fail
    go_quiet (fail)
    go_wp2_with fail
    go_region_held3 (fun w' => w'.cell? ⟨g, 0, none⟩ = some (.slice (some ad) n c) ∧ w'.cell? ⟨g, 1, none⟩ = some (.int .i64 (i : Int)) ∧ w'.cell? (ad.add (i * 3)) = some (.int .i64 x.f0) ∧ w'.cell? ⟨(ad.add (i * 3)).block, (ad.add (i * 3)).off + 1, none⟩ = some (.string x.f1) ∧ w'.cell? ⟨(ad.add (i * 3)).block, (ad.add (i * 3)).off + 2, none⟩ = some (.int .i64 x.f2)) (go_keep) (fail)
    go_wp2_with fail
    refine bodyPost_ret (v := tokV x) (by simp [results, Tryz.results198, go_sem]) rfl ⟨rfl, ?_⟩
    exact (((pw_below_drewN (below_alloc (Below.refl _ _) _) _).setCell (Nat.le_refl _) _).setCell (Nat.le_refl _) _).setCell (Nat.le_refl _) _

theorem field0 (a : Int) (b : ByteArray) (n : Int) (w : World) : (Instr.field 106 (.agg #[.int .i64 a, .string b, .int .i64 n]) 0).run Tryz.prog w = .ok (.int .i64 a) w := by kernel_rfl
theorem field1 (a : Int) (b : ByteArray) (n : Int) (w : World) : (Instr.field 106 (.agg #[.int .i64 a, .string b, .int .i64 n]) 1).run Tryz.prog w = .ok (.string b) w := by kernel_rfl
set_option maxRecDepth 100000 in
set_option maxHeartbeats 400000 in
theorem isC (m : ByteArray) (g : Nat) (A : Option Addr) (c : Nat) (E : Value) (p s : List TokT) (w : World) (h : Rd g A c E p s w) :
    Calls Tryz.prog 178 #[.pointer (some ⟨g, 0, none⟩), .string m] w fun e w' => e = .returned (.bool (isL s m)) ∧ Below w.heap.size w w' := by
  have H := Lib.hid h
  clear h
  obtain ⟨t, ht⟩ : ∃ t, peekL s = t := ⟨_, rfl⟩
  have hfin : Hid (isL s m = (decide (3 ≤ t.f0) && (t.f1.toList == m.toList))) := Lib.hid (by unfold isL; rw [ht, ByteArray.toList_eq, ByteArray.toList_eq])
  have K := fun W (h : Rd g A c E p s W) => peekC g A c E p s W h
  rw [ht] at K
  have HK := Lib.hid K
  clear K ht
  have hf0 := field0
  have hf1 := field1
  by_cases h3 : 3 ≤ t.f0
  · have hd : decide (3 ≤ t.f0) = true := by simpa using h3
    go_enter Tryz.func178, Tryz.ntmps178
    go_wp2_with fail
    refine (HK.out _ H.out).mono ?_
    rintro e w1 ⟨rfl, hb⟩
    have HB := Lib.hid hb
    clear hb
    go_wp2_with fail
    refine (HK.out _ (H.out.below HB.out)).mono ?_
    rintro e w2 ⟨rfl, hb⟩
    have HB2 := Lib.hid (below_step HB.out hb)
    clear hb
    go_wp2_with fail
    go_ret
    exact ⟨by rw [hfin.out]; simp [hd], HB2.out⟩
  · have hd : decide (3 ≤ t.f0) = false := by simpa using h3
    go_enter Tryz.func178, Tryz.ntmps178
    go_wp2_with fail
    refine (HK.out _ H.out).mono ?_
    rintro e w1 ⟨rfl, hb⟩
    have HB := Lib.hid hb
    clear hb
    go_wp2_with fail
    go_ret
    exact ⟨by rw [hfin.out, hd]; rfl, HB.out⟩

/-- take: what it tells, and where the reader is. -/
theorem takeC (m : ByteArray) (g : Nat) (A : Option Addr) (c : Nat) (E : Value) (p s : List TokT) (w : World) (h : Rd g A c E p s w) :
    Calls Tryz.prog 132 #[.pointer (some ⟨g, 0, none⟩), .string m] w fun e w' => Took g A c E p s w (isL s m) e w' := by
  have HK := Lib.hid (isC m g A c E p s w h)
  have H := Lib.hid h
  have hlen := h.len
  have hlt := h.lt
  clear h
  cases hb : isL s m with
  | false =>
    rw [hb] at HK
    clear hb
    go_enter Tryz.func132, Tryz.ntmps132
    go_wp2_with fail
    refine HK.out.mono ?_
    rintro e w1 ⟨rfl, hb⟩
    have HB := Lib.hid hb
    clear hb
    go_wp2_with fail
    go_ret
    exact ⟨rfl, Past.of_below HB.out, fun _ => H.out.below HB.out, (fun h => by cases h)⟩
  | true =>
    obtain ⟨x, r, rfl⟩ := isL_ne hb
    rw [hb] at HK
    clear hb
    have hp : (p.length : Int) + 1 ≤ 9223372036854775807 := by simp at hlen; omega
    have hp0 : (0 : Int) ≤ (p.length : Int) := by omega
    go_enter Tryz.func132, Tryz.ntmps132
    go_wp2_with fail
    refine HK.out.mono ?_
    rintro e w1 ⟨rfl, hb⟩
    have H1 := Lib.hid (H.out.below hb)
    have c1 := (H.out.below hb).c1
    have f1 := (H.out.below hb).fz 1
    have HB := Lib.hid hb
    clear hb
    go_wp2_with fail
    go_ret
    exact ⟨rfl, (Past.of_below HB.out).set 1 _, (fun h => by cases h), fun _ => ⟨x, r, rfl, H1.out.step⟩⟩

set_option maxRecDepth 100000 in
set_option maxHeartbeats 400000 in
theorem failC (g : Nat) (A : Option Addr) (c : Nat) (E : Value) (p s : List TokT) (w : World) (h : Rd g A c E p s w) :
    Calls Tryz.prog 87 #[.pointer (some ⟨g, 0, none⟩)] w fun e w' => Fails g E w e w' := by
  have H := Lib.hid h
  have c1 := h.c1
  have err := h.err
  obtain ⟨te, ve, rfl⟩ := h.ei
  have n0 := World.new_ne w _ c1
  have n1 := World.new_ne w _ err
  clear h
  go_enter Tryz.func87, Tryz.ntmps87
  go_wp2_with fail
  go_still_tail 6, (by kernel_rfl)
  change wpList _ _ _ _ _ w.drew
  go_wp2_with fail
  refine ⟨rfl, ?_⟩
  exact ⟨Past.of_below (below_drew (below_alloc (Below.refl _ _) _)), _, _, rfl, blk_drew (blk_new _ _)⟩

/-- must: by a key or mark; without it: the grammar does not go on. -/
theorem must_yes (m : ByteArray) (g : Nat) (A : Option Addr) (c : Nat) (E : Value) (p : List TokT) (x : TokT) (r : List TokT) (w : World) (h : Rd g A c E p (x :: r) w) (hm : isL (x :: r) m = true) :
    Calls Tryz.prog 196 #[.pointer (some ⟨g, 0, none⟩), .string m] w fun e w' => e = .returned (.tuple #[]) ∧ Past g w w' ∧ Rd g A c E (p ++ [x]) r w' := by
  have HK := Lib.hid (takeC m g A c E p (x :: r) w h)
  rw [hm] at HK
  clear h hm
  go_enter Tryz.func196, Tryz.ntmps196
  go_wp2_with fail
  refine HK.out.mono ?_
  rintro e w1 ⟨rfl, hp, -, h1⟩
  obtain ⟨y, q, e, hr⟩ := h1 rfl
  injection e with e1 e2
  subst e1 e2
  have HP := Lib.hid hp
  have HR := Lib.hid hr
  clear hp hr h1
  go_wp2_with fail
  go_end0
  exact ⟨rfl, HP.out, HR.out⟩
theorem must_no (m : ByteArray) (g : Nat) (A : Option Addr) (c : Nat) (E : Value) (p s : List TokT) (w : World) (h : Rd g A c E p s w) (hm : isL s m = false) :
    Calls Tryz.prog 196 #[.pointer (some ⟨g, 0, none⟩), .string m] w fun e w' => Fails g E w e w' := by
  have HK := Lib.hid (takeC m g A c E p s w h)
  rw [hm] at HK
  clear h hm
  go_enter Tryz.func196, Tryz.ntmps196
  go_wp2_with fail
  refine HK.out.mono ?_
  rintro e w1 ⟨rfl, hp, h1, -⟩
  have HR := Lib.hid (h1 rfl)
  have HP := Lib.hid hp
  clear hp h1
  go_wp2_with fail
  refine (failC g A c E p s _ HR.out).mono ?_
  rintro e w2 ⟨hp2, b, n, rfl, hb⟩
  have HP2 := Lib.hid (HP.out.trans hp2)
  have HB := Lib.hid hb
  clear hp2 hb
  go_wp2_with fail
  exact ⟨rfl, HP2.out, _, _, rfl, HB.out⟩

/-- name: by a name. -/
theorem name_yes (g : Nat) (A : Option Addr) (c : Nat) (E : Value) (p : List TokT) (x : TokT) (r : List TokT) (w : World) (h : Rd g A c E p (x :: r) w) (hx : x.f0 = 1) :
    Calls Tryz.prog 195 #[.pointer (some ⟨g, 0, none⟩)] w fun e w' => e = .returned (.string x.f1) ∧ Past g w w' ∧ Rd g A c E (p ++ [x]) r w' := by
  have HK := Lib.hid (peekC g A c E p (x :: r) w h)
  have hlen := h.len
  have hp : (p.length : Int) + 1 ≤ 9223372036854775807 := by simp at hlen; omega
  have hp0 : (0 : Int) ≤ (p.length : Int) := by omega
  rw [show peekL (x :: r) = x from rfl, hx] at HK
  have H := Lib.hid h
  clear h hx hlen
  go_enter Tryz.func195, Tryz.ntmps195
  go_wp2_with fail
  refine HK.out.mono ?_
  rintro e w1 ⟨rfl, hb⟩
  have h1 := H.out.below hb
  have H1 := Lib.hid h1
  have c1 := h1.c1
  have f1 := h1.fz 1
  have n0 := World.new_ne w1 _ c1
  have hlt := h1.lt
  have HB := Lib.hid hb
  clear hb h1
  go_wp2_with fail
  go_ret
  exact ⟨rfl, ((Past.of_below HB.out).set 1 _).alloc _, H1.out.step.below (below_alloc (Below.refl _ _) _)⟩
theorem name_no (g : Nat) (A : Option Addr) (c : Nat) (E : Value) (p s : List TokT) (w : World) (h : Rd g A c E p s w) (hx : (peekL s).f0 ≠ 1) :
    Calls Tryz.prog 195 #[.pointer (some ⟨g, 0, none⟩)] w fun e w' => Fails g E w e w' := by
  have HK := Lib.hid (peekC g A c E p s w h)
  have hb1 : ((peekL s).f0 != 1) = true := by simpa using hx
  have H := Lib.hid h
  clear h hx
  generalize peekL s = x at *
  go_enter Tryz.func195, Tryz.ntmps195
  go_wp2_with fail
  refine HK.out.mono ?_
  rintro e w1 ⟨rfl, hb⟩
  have HB := Lib.hid (below_alloc hb (.cells #[.int .i64 x.f0, .string x.f1, .int .i64 x.f2] 106))
  clear hb
  go_wp2_with fail
  refine (failC g A c E p s _ (H.out.below HB.out)).mono ?_
  rintro e w2 ⟨hp2, b, n, rfl, hb⟩
  have HP2 := Lib.hid ((Past.of_below HB.out).trans hp2)
  have HB2 := Lib.hid hb
  clear hp2 hb
  go_wp2_with fail
  exact ⟨rfl, HP2.out, _, _, rfl, HB2.out⟩

/-- begins. -/
theorem beginsC (g : Nat) (A : Option Addr) (c : Nat) (E : Value) (p s : List TokT) (w : World) (h : Rd g A c E p s w) :
    Calls Tryz.prog 216 #[.pointer (some ⟨g, 0, none⟩)] w fun e w' => e = .returned (.bool (beginsL s)) ∧ Below w.heap.size w w' := by
  have HP := Lib.hid (peekC g A c E p s w h)
  have HI := Lib.hid (fun m W (h : Rd g A c E p s W) => isC m g A c E p s W h)
  have H := Lib.hid h
  clear h
  obtain ⟨x, hx⟩ : ∃ x, (peekL s).f0 = x := ⟨_, rfl⟩
  have hfin : Hid (beginsL s = (decide (x = 1) || (decide (x = 2) || (isL s ⟨#[40]⟩ || isL s ⟨#[33]⟩)))) := Lib.hid (by unfold beginsL; rw [hx])
  rw [hx] at HP
  clear hx
  have hf0 := field0
  by_cases h1 : x = 1
  · have e1 : (x == 1) = true := by simpa using h1
    have HF := Lib.hid h1
    clear h1
    go_enter Tryz.func216, Tryz.ntmps216
    go_wp2_with fail
    refine HP.out.mono ?_
    rintro e w1 ⟨rfl, hb⟩
    have HB := Lib.hid hb
    clear hb
    go_wp2_with fail
    go_ret
    exact ⟨by rw [hfin.out, HF.out]; rfl, HB.out⟩
  · have e1 : (x == 1) = false := by simpa using h1
    have HF := Lib.hid h1
    clear h1
    by_cases h2 : x = 2
    · have e2 : (x == 2) = true := by simpa using h2
      have HF2 := Lib.hid h2
      clear h2
      go_enter Tryz.func216, Tryz.ntmps216
      go_wp2_with fail
      refine HP.out.mono ?_
      rintro e w1 ⟨rfl, hb⟩
      have HB := Lib.hid hb
      clear hb
      go_wp2_with fail
      go_ret
      exact ⟨by rw [hfin.out, HF2.out]; rfl, HB.out⟩
    · have e2 : (x == 2) = false := by simpa using h2
      have HF2 := Lib.hid h2
      clear h2
      have hfin2 : Hid (beginsL s = (isL s ⟨#[40]⟩ || isL s ⟨#[33]⟩)) := Lib.hid (by rw [hfin.out, decide_eq_false HF.out, decide_eq_false HF2.out]; rfl)
      generalize hm1 : isL s ⟨#[40]⟩ = b1 at hfin2
      generalize hm2 : isL s ⟨#[33]⟩ = b2 at hfin2
      have M1 := Lib.hid hm1
      have M2 := Lib.hid hm2
      clear hm1 hm2
      cases b1 with
      | true =>
        go_enter Tryz.func216, Tryz.ntmps216
        go_wp2_with fail
        refine HP.out.mono ?_
        rintro e w1 ⟨rfl, hb⟩
        have HB := Lib.hid hb
        clear hb
        go_wp2_with fail
        refine (HI.out _ _ (H.out.below HB.out)).mono ?_
        rw [M1.out]
        rintro e w2 ⟨rfl, hb⟩
        have HB2 := Lib.hid (below_step HB.out hb)
        clear hb
        go_wp2_with fail
        go_ret
        exact ⟨by rw [hfin2.out]; rfl, HB2.out⟩
      | false =>
        go_enter Tryz.func216, Tryz.ntmps216
        go_wp2_with fail
        refine HP.out.mono ?_
        rintro e w1 ⟨rfl, hb⟩
        have HB := Lib.hid hb
        clear hb
        go_wp2_with fail
        refine (HI.out _ _ (H.out.below HB.out)).mono ?_
        rw [M1.out]
        rintro e w2 ⟨rfl, hb⟩
        have HB2 := Lib.hid (below_step HB.out hb)
        clear hb
        go_wp2_with fail
        refine (HI.out _ _ (H.out.below HB2.out)).mono ?_
        rw [M2.out]
        rintro e w3 ⟨rfl, hb⟩
        have HB3 := Lib.hid (below_step HB2.out hb)
        clear hb
        go_wp2_with fail
        go_ret
        exact ⟨by rw [hfin2.out]; rfl, HB3.out⟩

/-- bound: by a name and a mark. -/
theorem bound_yes (m : ByteArray) (g : Nat) (A : Option Addr) (c : Nat) (E : Value) (p : List TokT) (x y : TokT) (r : List TokT) (w : World) (h : Rd g A c E p (x :: y :: r) w) (hx : x.f0 = 1) (hm : isL (y :: r) m = true) :
    Calls Tryz.prog 175 #[.pointer (some ⟨g, 0, none⟩), .string m] w fun e w' => e = .returned (.string x.f1) ∧ Past g w w' ∧ Rd g A c E (p ++ [x] ++ [y]) r w' := by
  have HK := Lib.hid (name_yes g A c E p x (y :: r) w h hx)
  have HM := Lib.hid (fun W (h : Rd g A c E (p ++ [x]) (y :: r) W) => must_yes m g A c E (p ++ [x]) y r W h hm)
  clear h hx hm
  go_enter Tryz.func175, Tryz.ntmps175
  go_wp2_with fail
  refine HK.out.mono ?_
  rintro e w1 ⟨rfl, hp, hr⟩
  have HP := Lib.hid hp
  have HR := Lib.hid hr
  clear hp hr
  go_wp2_with fail
  refine (HM.out _ HR.out).mono ?_
  rintro e w2 ⟨rfl, hp, hr⟩
  have HP2 := Lib.hid (HP.out.trans hp)
  have HR2 := Lib.hid hr
  clear hp hr
  go_wp2_with fail
  go_ret
  exact ⟨rfl, HP2.out, HR2.out⟩
theorem bound_no (m : ByteArray) (g : Nat) (A : Option Addr) (c : Nat) (E : Value) (p s : List TokT) (w : World) (h : Rd g A c E p s w) (hb : boundL s m = none) :
    Calls Tryz.prog 175 #[.pointer (some ⟨g, 0, none⟩), .string m] w fun e w' => Fails g E w e w' := by
  by_cases hx : (peekL s).f0 = 1
  · obtain ⟨x, r, rfl⟩ := peek_ne (s := s) (by rw [hx]; decide)
    have hm : isL r m = false := by
      unfold boundL at hb
      rw [if_pos hx] at hb
      cases hq : isL r m with
      | false => rfl
      | true => rw [if_pos (by exact hq)] at hb; cases hb
    have HK := Lib.hid (name_yes g A c E p x r w h hx)
    have HM := Lib.hid (fun W (h : Rd g A c E (p ++ [x]) r W) => must_no m g A c E (p ++ [x]) r W h hm)
    clear h hx hm hb
    go_enter Tryz.func175, Tryz.ntmps175
    go_wp2_with fail
    refine HK.out.mono ?_
    rintro e w1 ⟨rfl, hp, hr⟩
    have HP := Lib.hid hp
    have HR := Lib.hid hr
    clear hp hr
    go_wp2_with fail
    refine (HM.out _ HR.out).mono ?_
    rintro e w2 ⟨hp2, b, n, rfl, hb⟩
    have HP2 := Lib.hid (HP.out.trans hp2)
    have HB2 := Lib.hid hb
    clear hp2 hb
    go_wp2_with fail
    exact ⟨rfl, HP2.out, _, _, rfl, HB2.out⟩
  · have HK := Lib.hid (name_no g A c E p s w h hx)
    clear h hx hb
    go_enter Tryz.func175, Tryz.ntmps175
    go_wp2_with fail
    refine HK.out.mono ?_
    rintro e w2 ⟨hp2, b, n, rfl, hb⟩
    have HP2 := Lib.hid hp2
    have HB2 := Lib.hid hb
    clear hp2 hb
    go_wp2_with fail
    exact ⟨rfl, HP2.out, _, _, rfl, HB2.out⟩
end Go.Proofs.YtchekgnacodolaaGreatDoor.X
/- chancel/parse's reader: a part. -/
namespace Go.Proofs.YtchekgnacodolaaGreatDoor.X
open Go.RowKit Go.Proofs.YtchekgnacodolaaGreatDoorW.PrintWords Go.Proofs.YtchekgnacodolaaGreatDoorW.PrintLast Go.Proofs.YtchekgnacodolaaGreatDoorW.PrintMore
set_option linter.unusedSimpArgs false
set_option linter.unusedVariables false

/-- A method's contract, for so many rounds. -/
def RH (f : FuncId) (m : Mode) (k : Nat) : Prop := ∀ (g : Nat) (A : Option Addr) (c : Nat) (E : Value) (p s : List TokT) (w : World) (res : Option (Tm × List TokT)), Rd g A c E p s w → run k m s = some res →
  Calls Tryz.prog f #[.pointer (some ⟨g, 0, none⟩)] w fun e w' => Out g A c E p s w res e w'
theorem RH.some {f : FuncId} {m : Mode} {k : Nat} (h : RH f m k) {g : Nat} {A : Option Addr} {c : Nat} {E : Value} {p s s' : List TokT} {t : Tm} {w : World} (hr : Rd g A c E p s w) (e : run k m s = .some (.some (t, s'))) :
    Calls Tryz.prog f #[.pointer (.some ⟨g, 0, none⟩)] w fun e w' => ∃ A3 c3 p', e = .returned (.agg #[.int .i64 t.f0, .string t.f1, .int .i64 t.f2, .slice A3 t.f3.length c3]) ∧ Past g w w' ∧ TmV w.heap.size w' t (.agg #[.int .i64 t.f0, .string t.f1, .int .i64 t.f2, .slice A3 t.f3.length c3]) ∧ p' ++ s' = p ++ s ∧ Rd g A c E p' s' w' := by
  refine (h g A c E p s w _ hr e).mono ?_
  rintro e w' ⟨hp, v, p', rfl, hv, he, hr'⟩
  obtain ⟨A3, c3, rfl, hl, hC⟩ := hv
  exact ⟨A3, c3, p', rfl, hp, ⟨A3, c3, rfl, hl, hC⟩, he, hr'⟩
theorem RH.none {f : FuncId} {m : Mode} {k : Nat} (h : RH f m k) {g : Nat} {A : Option Addr} {c : Nat} {E : Value} {p s : List TokT} {w : World} (hr : Rd g A c E p s w) (e : run k m s = .some .none) :
    Calls Tryz.prog f #[.pointer (.some ⟨g, 0, Option.none⟩)] w fun e w' => Fails g E w e w' := h g A c E p s w _ hr e
/-- A block that the call has made. -/
def Own (w : World) (b : Nat) (cs : Array Value) (T : TypeId) : Prop := w.heap[b]? = some (.cells cs T (0, 0))
theorem Own.past {g b : Nat} {w w1 : World} {cs : Array Value} {T : TypeId} (h : Own w b cs T) (hp : Past g w w1) (hg : b ≠ g) : Own w1 b cs T := blk_past h hp hg
theorem Own.alloc {b : Nat} {w : World} {cs : Array Value} {T : TypeId} (h : Own w b cs T) (o : Obj) : Own (w.alloc o) b cs T := blk_alloc h o
theorem Own.new (w : World) (cs : Array Value) (T : TypeId) : Own (w.alloc (.cells cs T)) w.heap.size cs T := blk_new w _
theorem Own.cell {b : Nat} {w : World} {cs : Array Value} {T : TypeId} (h : Own w b cs T) (i : Nat) : w.cell? ⟨b, i, none⟩ = cs[i]? := blk_cell h i
theorem Own.fz {b : Nat} {w : World} {cs : Array Value} {T : TypeId} (h : Own w b cs T) (i : Nat) : w.frozen? ⟨b, i, none⟩ = false := blk_frozen h i
theorem Own.lt {b : Nat} {w : World} {cs : Array Value} {T : TypeId} (h : Own w b cs T) : b < w.heap.size := blk_lt h

theorem take_yes (m : ByteArray) {g : Nat} {A : Option Addr} {c : Nat} {E : Value} {p s : List TokT} {w : World} (h : Rd g A c E p s w) (hm : isL s m = true) :
    Calls Tryz.prog 132 #[.pointer (some ⟨g, 0, none⟩), .string m] w fun e w' => e = .returned (.bool true) ∧ Past g w w' ∧ ∃ x, s = x :: s.tail ∧ Rd g A c E (p ++ [x]) s.tail w' := by
  refine (takeC m g A c E p s w h).mono ?_
  rw [hm]
  rintro e w' ⟨rfl, hp, -, hy⟩
  obtain ⟨x, r, rfl, hr⟩ := hy rfl
  exact ⟨rfl, hp, x, rfl, hr⟩
theorem take_no (m : ByteArray) {g : Nat} {A : Option Addr} {c : Nat} {E : Value} {p s : List TokT} {w : World} (h : Rd g A c E p s w) (hm : isL s m = false) :
    Calls Tryz.prog 132 #[.pointer (some ⟨g, 0, none⟩), .string m] w fun e w' => e = .returned (.bool false) ∧ Past g w w' ∧ Rd g A c E p s w' := by
  refine (takeC m g A c E p s w h).mono ?_
  rw [hm]
  rintro e w' ⟨rfl, hp, hn, -⟩
  exact ⟨rfl, hp, hn rfl⟩
theorem then_some {r : PR} {f : Tm → List TokT → PR} {res : Option (Tm × List TokT)} (h : r.then_ f = some res) : (r = some none ∧ res = none) ∨ ∃ t s, r = some (some (t, s)) ∧ f t s = some res := by
  cases r with
  | none => cases h
  | some x =>
    cases x with
    | none => exact .inl ⟨rfl, (Option.some.inj h).symm⟩
    | some p => exact .inr ⟨p.1, p.2, rfl, h⟩
theorem key_some {r : PR} {m : ByteArray} {f : Tm → List TokT → PR} {res : Option (Tm × List TokT)} (h : r.key m f = some res) : (r = some none ∧ res = none) ∨ (∃ t s, r = some (some (t, s)) ∧ isL s m = false ∧ res = none) ∨ ∃ t s, r = some (some (t, s)) ∧ isL s m = true ∧ f t s.tail = some res := by
  rcases then_some h with h | ⟨t, s, e, h⟩
  · exact .inl h
  · by_cases hm : isL s m = true
    · rw [if_pos hm] at h; exact .inr (.inr ⟨t, s, e, hm, h⟩)
    · rw [if_neg hm] at h; exact .inr (.inl ⟨t, s, e, by simpa using hm, (Option.some.inj h).symm⟩)
theorem run_part (k : Nat) (s : List TokT) : run (k + 1) .part s = if isL s mGet = true then (run k .part s.tail).then_ fun t s => PR.ret (tm 10 noName [t]) s
    else if isL s mOpen = true then (run k .all s.tail).key mClose PR.ret
    else if (peekL s).f0 = 1 then PR.ret (tm 2 (peekL s).f1 []) s.tail
    else if (peekL s).f0 = 2 then PR.ret ⟨1, noName, (peekL s).f2, []⟩ s.tail
    else some none := rfl
abbrev zeroV : Array Value := #[.int .i64 0, .string ⟨#[]⟩, .int .i64 0, .slice none 0 0]

theorem four_set {N w3size : Nat} {w w' : World} {a b c d : Value} (h : Below N w w') : Below N w ((((w'.setCell ⟨N, 0, none⟩ a).setCell ⟨N, 1, none⟩ b).setCell ⟨N, 2, none⟩ c).setCell ⟨N, 3, none⟩ d) :=
  (((h.setCell (Nat.le_refl _) _).setCell (Nat.le_refl _) _).setCell (Nat.le_refl _) _).setCell (Nat.le_refl _) _
theorem four_same {base N : Nat} {w w' : World} {a b c d : Value} (h : Same base w w') (hN : N < base) : Same base w ((((w'.setCell ⟨N, 0, none⟩ a).setCell ⟨N, 1, none⟩ b).setCell ⟨N, 2, none⟩ c).setCell ⟨N, 3, none⟩ d) :=
  (((h.set hN _).set hN _).set hN _).set hN _
theorem four_far {N g : Nat} {w' : World} {o : Obj} {a b c d : Value} (h : w'.heap[g]? = some o) (hN : g ≠ N) : ((((w'.setCell ⟨N, 0, none⟩ a).setCell ⟨N, 1, none⟩ b).setCell ⟨N, 2, none⟩ c).setCell ⟨N, 3, none⟩ d).heap[g]? = some o :=
  (Below.heap_setCell _ _ _ g hN).trans ((Below.heap_setCell _ _ _ g hN).trans ((Below.heap_setCell _ _ _ g hN).trans ((Below.heap_setCell _ _ _ g hN).trans h)))
theorem Own.four {N : Nat} {w : World} {x0 x1 x2 x3 a b c d : Value} {T : TypeId} (h : Own w N #[x0, x1, x2, x3] T) : Own ((((w.setCell ⟨N, 0, none⟩ a).setCell ⟨N, 1, none⟩ b).setCell ⟨N, 2, none⟩ c).setCell ⟨N, 3, none⟩ d) N #[a, b, c, d] T := by
  have := blk_set (blk_set (blk_set (blk_set h 0 a) 1 b) 2 c) 3 d
  simpa [Own] using this
/-- A term that is a function's result, out of its block. -/
theorem ret4 {fn : Func} {p N : Nat} {tmps : Array Value} {w : World} {a b c d : Value} {R : Ending → World → Prop} (h : fn.results = #[.cell p 26]) (hp : tmps.getD p undef = .pointer (some ⟨N, 0, none⟩)) (hb : Own w N #[a, b, c, d] 26) (hR : R (.returned (.agg #[a, b, c, d])) w) : bodyPost Tryz.prog fn R Exit.ret { tmps := tmps, defers := [] } w :=
  bodyPost_ret (results_cell_row h tmps w N 26 #[a, b, c, d] (0, 0) _ hp hb Tryz.underlying26 rfl (by kernel_rfl)) rfl hR
theorem belowN_alloc {N : Nat} {w : World} (h : N ≤ w.heap.size) (o : Obj) : Below N w (w.alloc o) := (Below.refl _ _).alloc h _

set_option maxRecDepth 100000 in
set_option maxHeartbeats 4000000 in
theorem part_step (k : Nat) (HP : RH 215 .part k) (HA : RH 86 .all k) : RH 215 .part (k + 1) := by
  intro g A c E p s w res h hrun
  rw [run_part] at hrun
  have HR := Lib.hid hrun
  have h0 := h.below (below_alloc (Below.refl _ _) (.cells zeroV 26))
  have hlt := h.lt
  have hne : w.heap.size ≠ g := by omega
  have HH := Lib.hid h
  clear hrun h
  go_enter Tryz.func215, Tryz.ntmps215
  go_wp2_with fail
  refine (peekC g A c E p s _ h0).mono ?_
  rintro e w1 ⟨rfl, hb⟩
  obtain ⟨x, hx⟩ : ∃ x, peekL s = x := ⟨_, rfl⟩
  rw [hx]
  have HX := Lib.hid hx
  have h1 := h0.below hb
  have hne3 : w1.heap.size ≠ g := by have := h1.lt; omega
  have hN1 : w.heap.size < w1.heap.size := by have := hb.size; simp at this; omega
  have h2 := h1.below (below_alloc (Below.refl _ _) (.cells #[.int .i64 x.f0, .string x.f1, .int .i64 x.f2] 106))
  have P2 : Past g w (w1.alloc (.cells #[.int .i64 x.f0, .string x.f1, .int .i64 x.f2] 106)) := ((Past.of_below (below_alloc (Below.refl _ _) _)).trans (Past.of_below hb)).alloc _
  have B2 := ((Own.new w zeroV 26).past (Past.of_below (g := g) hb) hne).alloc (.cells #[.int .i64 x.f0, .string x.f1, .int .i64 x.f2] 106)
  have B3 := Own.new w1 #[.int .i64 x.f0, .string x.f1, .int .i64 x.f2] 106
  clear hx hb h1 h0
  cases hq : isL s mGet with
  | true =>
    have K := Lib.hid (take_yes mGet h2 hq)
    rw [hq, if_pos rfl] at HR
    clear hq h2
    go_wp2_with fail
    refine K.out.mono ?_
    rintro e w2 ⟨rfl, hp, y, hs, h3⟩
    have HS := Lib.hid hs
    have C2 := B2.past hp hne
    have hN2 : w1.heap.size < w2.heap.size := by have := hp.size; simp at this; omega
    have P3 := P2.trans hp
    clear hs hp
    rcases then_some HR.out with ⟨hr, rfl⟩ | ⟨t, s', hr, he⟩
    · have KP := Lib.hid (HP.none h3 hr)
      clear hr h3
      go_wp2_with fail
      refine KP.out.mono ?_
      rintro e w3 ⟨hp, b, n, rfl, hb⟩
      have P4 := P3.trans hp
      have HB := Lib.hid hb
      clear hp hb
      go_wp2_with fail
      exact ⟨rfl, P4, _, _, rfl, HB.out⟩
    · have KP := Lib.hid (HP.some h3 hr)
      have HE := Lib.hid he
      clear hr h3 he
      go_wp2_with fail
      refine KP.out.mono ?_
      rintro e w3 ⟨A3, c3, p', rfl, hp, hv, hpp, hrd⟩
      have P4 := P3.trans hp
      have D2 := C2.past hp hne
      have HPP := Lib.hid hpp
      have hN3 : w2.heap.size ≤ w3.heap.size := hp.size
      have d0 := (D2.alloc (.cells #[.int .i64 t.f0, .string t.f1, .int .i64 t.f2, .slice A3 t.f3.length c3] 26)).cell 0
      have d1 := (D2.alloc (.cells #[.int .i64 t.f0, .string t.f1, .int .i64 t.f2, .slice A3 t.f3.length c3] 26)).cell 1
      have d2 := (D2.alloc (.cells #[.int .i64 t.f0, .string t.f1, .int .i64 t.f2, .slice A3 t.f3.length c3] 26)).cell 2
      have d3 := (D2.alloc (.cells #[.int .i64 t.f0, .string t.f1, .int .i64 t.f2, .slice A3 t.f3.length c3] 26)).cell 3
      have dz := fun i => (D2.alloc (.cells #[.int .i64 t.f0, .string t.f1, .int .i64 t.f2, .slice A3 t.f3.length c3] 26)).fz i
      clear hp hpp
      go_wp2_with fail
      refine ret4 rfl rfl (Own.four (D2.alloc _)) ?_
      have e1 := HE.out
      injection e1 with e1
      subst e1
      exact Out.ret HH.out P4 (four_set (w3size := 0) (belowN_alloc (by omega) _)) (by rw [HPP.out, HS.out]; simp) hrd
        ((TmV.kids1 10 noName (hv.same (four_same ((Same.refl _ _).alloc _) (by omega))) (four_far (blk_new _ _) (by omega)) (by omega)).mono (by omega))
  | false =>
    have K := Lib.hid (take_no mGet h2 hq)
    rw [hq, if_neg (by decide)] at HR
    clear hq h2
    go_wp2_with fail
    refine K.out.mono ?_
    rintro e w2 ⟨rfl, hp, h3⟩
    have B2 := B2.past hp hne
    have B3 := B3.past hp hne3
    have hN2 : w1.heap.size < w2.heap.size := by have := hp.size; simp at this; omega
    have P3 := P2.trans hp
    clear hp
    cases hq : isL s mOpen with
    | true =>
      have K := Lib.hid (take_yes mOpen h3 hq)
      rw [hq, if_pos rfl] at HR
      clear hq h3
      go_wp2_with fail
      refine K.out.mono ?_
      rintro e w2' ⟨rfl, hp, y, hs, h3⟩
      have HS := Lib.hid hs
      have C2 := B2.past hp hne
      have hN2' : w2.heap.size ≤ w2'.heap.size := hp.size
      have P3 := P3.trans hp
      clear hs hp
      rcases key_some HR.out with ⟨hr, rfl⟩ | ⟨t, s', hr, hm, rfl⟩ | ⟨t, s', hr, hm, he⟩
      · have KP := Lib.hid (HA.none h3 hr)
        clear hr h3
        go_wp2_with fail
        refine KP.out.mono ?_
        rintro e w3 ⟨hp, b, n, rfl, hb⟩
        have P4 := P3.trans hp
        have HB := Lib.hid hb
        clear hp hb
        go_wp2_with fail
        exact ⟨rfl, P4, _, _, rfl, HB.out⟩
      · have KP := Lib.hid (HA.some h3 hr)
        have HM := Lib.hid hm
        clear hr h3 hm
        go_wp2_with fail
        refine KP.out.mono ?_
        rintro e w3 ⟨A3, c3, p', rfl, hp, hv, hpp, hrd⟩
        have P4 := P3.trans hp
        have KM := Lib.hid (must_no mClose g A c E p' s' _ (hrd.below (below_alloc (Below.refl _ _) (.cells #[.int .i64 t.f0, .string t.f1, .int .i64 t.f2, .slice A3 t.f3.length c3] 26))) HM.out)
        have P5 := P4.alloc (.cells #[.int .i64 t.f0, .string t.f1, .int .i64 t.f2, .slice A3 t.f3.length c3] 26)
        clear hp hpp hrd
        go_wp2_with fail
        refine KM.out.mono ?_
        rintro e w4 ⟨hp, b, n, rfl, hb⟩
        have P6 := P5.trans hp
        have HB := Lib.hid hb
        clear hp hb
        go_wp2_with fail
        exact ⟨rfl, P6, _, _, rfl, HB.out⟩
      · have KP := Lib.hid (HA.some h3 hr)
        have HE := Lib.hid he
        have HM := Lib.hid hm
        clear hr h3 he hm
        go_wp2_with fail
        refine KP.out.mono ?_
        rintro e w3 ⟨A3, c3, p', rfl, hp, hv, hpp, hrd⟩
        have P4 := P3.trans hp
        have D2 := C2.past hp hne
        have HPP := Lib.hid hpp
        have hN3 : w2'.heap.size ≤ w3.heap.size := hp.size
        have hne4 : w3.heap.size ≠ g := by omega
        obtain ⟨z, q, rfl⟩ := isL_ne HM.out
        have KM := Lib.hid (must_yes mClose g A c E p' z q _ (hrd.below (below_alloc (Below.refl _ _) (.cells #[.int .i64 t.f0, .string t.f1, .int .i64 t.f2, .slice A3 t.f3.length c3] 26))) HM.out)
        have P5 := P4.alloc (.cells #[.int .i64 t.f0, .string t.f1, .int .i64 t.f2, .slice A3 t.f3.length c3] 26)
        have D2 := D2.alloc (.cells #[.int .i64 t.f0, .string t.f1, .int .i64 t.f2, .slice A3 t.f3.length c3] 26)
        have D4 := Own.new w3 #[.int .i64 t.f0, .string t.f1, .int .i64 t.f2, .slice A3 t.f3.length c3] 26
        have hv := hv.same ((Same.refl _ _).alloc (.cells #[.int .i64 t.f0, .string t.f1, .int .i64 t.f2, .slice A3 t.f3.length c3] 26))
        clear hp hpp hrd
        go_wp2_with fail
        refine KM.out.mono ?_
        rintro e w4 ⟨rfl, hp, hrd⟩
        have P6 := P5.trans hp
        have D2 := D2.past hp hne
        have D4 := D4.past hp hne4
        have hv := hv.same (Same.of_past hp (by omega))
        have hN4 : w3.heap.size < w4.heap.size := by have := hp.size; simp at this; omega
        have d0 := D2.cell 0
        have d1 := D2.cell 1
        have d2 := D2.cell 2
        have d3 := D2.cell 3
        have dz := fun i => D2.fz i
        have q0 := D4.cell 0
        have q1 := D4.cell 1
        have q2 := D4.cell 2
        have q3 := D4.cell 3
        have qz := fun i => D4.fz i
        clear hp
        go_wp2_with fail
        refine ret4 rfl rfl (Own.four D2) ?_
        have e1 := HE.out
        injection e1 with e1
        subst e1
        exact Out.ret HH.out P6 (four_set (w3size := 0) (Below.refl _ _)) (by have := HPP.out; rw [HS.out]; simp at this ⊢; exact this) hrd
          ((hv.same (four_same (Same.refl _ _) (by omega))).mono (by omega))
    | false =>
      have K := Lib.hid (take_no mOpen h3 hq)
      rw [hq, if_neg (by decide), HX.out] at HR
      clear hq h3
      go_wp2_with fail
      refine K.out.mono ?_
      rintro e w2' ⟨rfl, hp, h3⟩
      have C2 := B2.past hp hne
      have C3 := B3.past hp hne3
      have hN2' : w2.heap.size ≤ w2'.heap.size := hp.size
      have P3 := P3.trans hp
      have t0 := C3.cell 0
      have t1 := C3.cell 1
      have t2 := C3.cell 2
      clear hp
      by_cases hx1 : x.f0 = 1
      · have b1 : (x.f0 == 1) = true := by simpa using hx1
        have HF := Lib.hid hx1
        rw [hx1, if_pos rfl] at HR
        clear hx1
        obtain ⟨y, r, rfl⟩ := peek_ne (s := s) (by rw [HX.out, HF.out]; decide)
        have HY := Lib.hid (show y = x from HX.out)
        have hf0 := h3.c1
        have hfz := h3.fz 1
        have hlen := h3.len
        have hp0 : (0 : Int) ≤ (p.length : Int) := by omega
        have hp1 : (p.length : Int) + 1 ≤ 9223372036854775807 := by simp at hlen; omega
        have H4 := Lib.hid h3.step
        have D2 : Own (w2'.setCell ⟨g, 1, none⟩ (.int .i64 ((p.length : Int) + 1))) w.heap.size zeroV 26 := blk_far C2 hne _
        have D3 : Own (w2'.setCell ⟨g, 1, none⟩ (.int .i64 ((p.length : Int) + 1))) w1.heap.size #[.int .i64 x.f0, .string x.f1, .int .i64 x.f2] 106 := blk_far C3 hne3 _
        have d0 := D2.cell 0
        have d1 := D2.cell 1
        have d2 := D2.cell 2
        have d3 := D2.cell 3
        have dz := fun i => D2.fz i
        have q0 := D3.cell 0
        have q1 := D3.cell 1
        have q2 := D3.cell 2
        clear h3
        go_wp2_with fail
        refine ret4 rfl rfl (Own.four D2) ?_
        have e1 := HR.out
        injection e1 with e1
        subst e1
        have hy := HY.out
        subst hy
        exact Out.ret HH.out (P3.set 1 _) (four_set (w3size := 0) (Below.refl _ _)) (by simp) H4.out (TmV.leaf _ _ _ _ _)
      · have b1 : (x.f0 == 1) = false := by simpa using hx1
        rw [if_neg hx1] at HR
        clear hx1
        by_cases hx2 : x.f0 = 2
        · have b2 : (x.f0 != 2) = false := by simpa using hx2
          have HF := Lib.hid hx2
          rw [hx2, if_pos rfl] at HR
          clear hx2
          obtain ⟨y, r, rfl⟩ := peek_ne (s := s) (by rw [HX.out, HF.out]; decide)
          have HY := Lib.hid (show y = x from HX.out)
          have hf0 := h3.c1
          have hfz := h3.fz 1
          have hlen := h3.len
          have hp0 : (0 : Int) ≤ (p.length : Int) := by omega
          have hp1 : (p.length : Int) + 1 ≤ 9223372036854775807 := by simp at hlen; omega
          have H4 := Lib.hid h3.step
          have D2 : Own (w2'.setCell ⟨g, 1, none⟩ (.int .i64 ((p.length : Int) + 1))) w.heap.size zeroV 26 := blk_far C2 hne _
          have D3 : Own (w2'.setCell ⟨g, 1, none⟩ (.int .i64 ((p.length : Int) + 1))) w1.heap.size #[.int .i64 x.f0, .string x.f1, .int .i64 x.f2] 106 := blk_far C3 hne3 _
          have d0 := D2.cell 0
          have d1 := D2.cell 1
          have d2 := D2.cell 2
          have d3 := D2.cell 3
          have dz := fun i => D2.fz i
          have q0 := D3.cell 0
          have q1 := D3.cell 1
          have q2 := D3.cell 2
          clear h3
          go_wp2_with fail
          refine ret4 rfl rfl (Own.four D2) ?_
          have e1 := HR.out
          injection e1 with e1
          subst e1
          have hy := HY.out
          subst hy
          exact Out.ret HH.out (P3.set 1 _) (four_set (w3size := 0) (Below.refl _ _)) (by simp) H4.out (TmV.leaf _ _ _ _ _)
        · have b2 : (x.f0 != 2) = true := by simpa using hx2
          rw [if_neg hx2] at HR
          clear hx2
          have KF := Lib.hid (failC g A c E p s _ h3)
          clear h3
          go_wp2_with fail
          refine KF.out.mono ?_
          rintro e w3 ⟨hp, b, n, rfl, hb⟩
          have P4 := P3.trans hp
          have HB := Lib.hid hb
          have e1 := HR.out
          injection e1 with e1
          subst e1
          clear hp hb
          go_wp2_with fail
          exact ⟨rfl, P4, _, _, rfl, HB.out⟩
end Go.Proofs.YtchekgnacodolaaGreatDoor.X
/- chancel/parse's reader: a term. -/
namespace Go.Proofs.YtchekgnacodolaaGreatDoor.X
open Go.RowKit Go.Proofs.YtchekgnacodolaaGreatDoorW.PrintWords Go.Proofs.YtchekgnacodolaaGreatDoorW.PrintLast Go.Proofs.YtchekgnacodolaaGreatDoorW.PrintMore
set_option linter.unusedSimpArgs false
set_option linter.unusedVariables false

theorem run_all (k : Nat) (s : List TokT) : run (k + 1) .all s = (run k .one s).then_ fun t s => if isL s mSeq = true then (run k .all s.tail).then_ fun u s => PR.ret (tm 13 noName [t, u]) s else PR.ret t s := rfl
set_option maxRecDepth 100000 in
set_option maxHeartbeats 4000000 in
theorem all_step (k : Nat) (HO : RH 131 .one k) (HA : RH 86 .all k) : RH 86 .all (k + 1) := by
  intro g A c E p s w res h hrun
  rw [run_all] at hrun
  have h0 := h.below (below_alloc (Below.refl _ _) (.cells zeroV 26))
  have hlt := h.lt
  have hne : w.heap.size ≠ g := by omega
  have HH := Lib.hid h
  have B2 := Own.new w zeroV 26
  have P0 : Past g w (w.alloc (.cells zeroV 26)) := Past.of_below (below_alloc (Below.refl _ _) _)
  rcases then_some hrun with ⟨hr, rfl⟩ | ⟨t, s', hr, he⟩
  · have KP := Lib.hid (HO.none h0 hr)
    clear hr h0 h hrun
    go_enter Tryz.func86, Tryz.ntmps86
    go_wp2_with fail
    refine KP.out.mono ?_
    rintro e w1 ⟨hp, b, n, rfl, hb⟩
    have P1 := P0.trans hp
    have HB := Lib.hid hb
    clear hp hb
    go_wp2_with fail
    exact ⟨rfl, P1, _, _, rfl, HB.out⟩
  · have KP := Lib.hid (HO.some h0 hr)
    have HE := Lib.hid he
    clear hr h0 h hrun he
    go_enter Tryz.func86, Tryz.ntmps86
    go_wp2_with fail
    refine KP.out.mono ?_
    rintro e w1 ⟨A3, c3, p', rfl, hp, hv, hpp, hrd⟩
    have hN1 : w.heap.size < w1.heap.size := by have := hp.size; simp at this; omega
    have hne1 : w1.heap.size ≠ g := by omega
    have hnn : w.heap.size ≠ w1.heap.size := by omega
    have P1 := (P0.trans hp).alloc (.cells #[.int .i64 t.f0, .string t.f1, .int .i64 t.f2, .slice A3 t.f3.length c3] 26)
    have B2 := (B2.past hp hne).alloc (.cells #[.int .i64 t.f0, .string t.f1, .int .i64 t.f2, .slice A3 t.f3.length c3] 26)
    have B3 := Own.new w1 #[.int .i64 t.f0, .string t.f1, .int .i64 t.f2, .slice A3 t.f3.length c3] 26
    have hv := hv.same ((Same.refl _ _).alloc (.cells #[.int .i64 t.f0, .string t.f1, .int .i64 t.f2, .slice A3 t.f3.length c3] 26))
    have hrd := hrd.below (below_alloc (Below.refl _ _) (.cells #[.int .i64 t.f0, .string t.f1, .int .i64 t.f2, .slice A3 t.f3.length c3] 26))
    have HPP := Lib.hid hpp
    clear hp hpp
    simp only [World.size_alloc] at hv
    cases hq : isL s' mSeq with
    | false =>
      have K := Lib.hid (take_no mSeq hrd hq)
      have he := HE.out
      rw [hq, if_neg (by decide)] at he
      injection he with he
      have HE := Lib.hid he
      clear hq he hrd
      go_wp2_with fail
      refine K.out.mono ?_
      rintro e w2 ⟨rfl, hp, hrd⟩
      have P2 := P1.trans hp
      have B2 := B2.past hp hne
      have B3 := B3.past hp hne1
      have hv := hv.same (Same.of_past hp (by omega))
      have d0 := B2.cell 0
      have d1 := B2.cell 1
      have d2 := B2.cell 2
      have d3 := B2.cell 3
      have dz := fun i => B2.fz i
      have q0 := B3.cell 0
      have q1 := B3.cell 1
      have q2 := B3.cell 2
      have q3 := B3.cell 3
      clear hp
      go_wp2_with fail
      refine ret4 rfl rfl (Own.four B2) ?_
      have e1 := HE.out
      subst e1
      exact Out.ret HH.out P2 (four_set (w3size := 0) (Below.refl _ _)) HPP.out hrd ((hv.same (four_same (Same.refl _ _) (by omega))).mono (by omega))
    | true =>
      have K := Lib.hid (take_yes mSeq hrd hq)
      have he := HE.out
      rw [hq, if_pos rfl] at he
      clear hq hrd
      rcases then_some he with ⟨hr, rfl⟩ | ⟨u, s2, hr, he2⟩
      · have HR := Lib.hid hr
        clear hr he HE
        go_wp2_with fail
        refine K.out.mono ?_
        rintro e w2 ⟨rfl, hp, y, hs, hrd⟩
        have P2 := P1.trans hp
        have B3 := B3.past hp hne1
        have q0 := B3.cell 0
        have q1 := B3.cell 1
        have q2 := B3.cell 2
        have q3 := B3.cell 3
        have KP := Lib.hid (HA.none (hrd.below (below_drew (Below.refl _ _))) HR.out)
        have P2 := P2.drew
        clear hp hs
        go_wp2_with fail
        refine wp_region_any (by kernel_rfl) ?_
        change wpAny _ _ _ _ _ _ _ (World.drew _)
        refine wpAny_take (i := 1) (v := .pointer (some ⟨g, 0, none⟩)) rfl (by kernel_rfl) (by kernel_rfl) (by kernel_rfl) (fun _ _ _ h => h) (Or.inl ⟨by rfl, ?_⟩) ?_
        · intro w; go_simp
        refine wpAny_ready (rs := [0, 2]) (by kernel_rfl) (by simp) ?_
        refine AllReady.cons rfl (fun K hK => ?_) ?_
        · go_simp
          refine hK _ _ ?_
          clear hK K
          refine wpAny_ready (rs := [2]) (by kernel_rfl) (by simp) ?_
          refine AllReady.cons rfl (fun K hK => ?_) AllReady.nil
          go_simp
          refine KP.out.mono ?_
          rintro e w3 ⟨hp, b, n, rfl, hb⟩
          exact ⟨rfl, P2.trans hp, _, _, rfl, hb⟩
        · refine AllReady.cons rfl (fun K hK => ?_) AllReady.nil
          go_simp
          refine KP.out.mono ?_
          rintro e w3 ⟨hp, b, n, rfl, hb⟩
          exact ⟨rfl, P2.trans hp, _, _, rfl, hb⟩
      · have HR := Lib.hid hr
        have HE := Lib.hid he2
        clear hr he he2
        go_wp2_with fail
        refine K.out.mono ?_
        rintro e w2 ⟨rfl, hp, y, hs, hrd⟩
        have P2 := P1.trans hp
        have B2 := B2.past hp hne
        have B3 := B3.past hp hne1
        have hN2 : w1.heap.size < w2.heap.size := by have := hp.size; simp at this; omega
        have hv := hv.same (Same.of_past hp (by omega))
        have q0 := B3.cell 0
        have q1 := B3.cell 1
        have q2 := B3.cell 2
        have q3 := B3.cell 3
        have HS := Lib.hid hs
        have KP := Lib.hid (HA.some (hrd.below (below_drew (Below.refl _ _))) HR.out)
        have B2d : Own w2.drew w.heap.size zeroV 26 := B2
        have B3d : Own w2.drew w1.heap.size #[.int .i64 t.f0, .string t.f1, .int .i64 t.f2, .slice A3 t.f3.length c3] 26 := B3
        have P2d := P2.drew
        have hvd := hv.same ((Same.refl _ _).drew)
        clear hp hs
        go_wp2_with fail
        go_region_held3 (fun w' => w'.cell? ⟨w1.heap.size, 0, none⟩ = some (.int .i64 t.f0) ∧ w'.cell? ⟨w1.heap.size, 1, none⟩ = some (.string t.f1) ∧ w'.cell? ⟨w1.heap.size, 2, none⟩ = some (.int .i64 t.f2) ∧ w'.cell? ⟨w1.heap.size, 3, none⟩ = some (.slice A3 t.f3.length c3)) (go_keep)
          ((go_at_call 86; refine KP.out.mono ?_; rintro e w3 ⟨A4, c4, p2, rfl, hp, hv2, hpp, hrd2⟩; have B2e := B2d.past hp hne; have q0 := (B3d.past hp hne1).cell 0; have q1 := (B3d.past hp hne1).cell 1; have q2 := (B3d.past hp hne1).cell 2; have q3 := (B3d.past hp hne1).cell 3; have B2f := B2e.alloc (.cells #[.int .i64 t.f0, .string t.f1, .int .i64 t.f2, .slice A3 t.f3.length c3, .int .i64 u.f0, .string u.f1, .int .i64 u.f2, .slice A4 u.f3.length c4] 26); have d0 := B2f.cell 0; have d1 := B2f.cell 1; have d2 := B2f.cell 2; have d3 := B2f.cell 3; have dz := fun i => B2f.fz i))
        go_wp2_with fail
        refine ret4 rfl rfl (Own.four B2f) ?_
        have hN3 : w2.heap.size ≤ w3.heap.size := hp.size
        have e1 := HE.out
        injection e1 with e1
        subst e1
        refine Out.ret HH.out (P2d.trans hp) (four_set (w3size := 0) (belowN_alloc (by omega) _)) (by rw [hpp, ← HPP.out, HS.out]; simp) hrd2 ?_
        exact (TmV.kids2 13 noName (hvd.same (((Same.of_past hp (by omega)).alloc _).trans (four_same (Same.refl _ _) (by omega)))) ((hv2.mono (by show w.heap.size + 1 ≤ w2.heap.size; omega)).same (((Same.refl _ _).alloc _).trans (four_same (Same.refl _ _) (by omega)))) (four_far (blk_new _ _) (by omega)) (by omega)).mono (by omega)

/-! ### an application -/
/-- What is told of by ok is as it was. -/
structure SameX (ok : Nat → Prop) (w w' : World) : Prop where
  size : w.heap.size ≤ w'.heap.size
  block : ∀ b, ok b → b < w.heap.size → w'.heap[b]? = w.heap[b]?
theorem SameX.trans {ok : Nat → Prop} {a b c : World} (h : SameX ok a b) (k : SameX ok b c) : SameX ok a c := ⟨Nat.le_trans h.size k.size, fun i hi hl => (k.block i hi (Nat.lt_of_lt_of_le hl h.size)).trans (h.block i hi hl)⟩
theorem SameX.of_past {g : Nat} {ok : Nat → Prop} {w w' : World} (h : Past g w w') (hg : ∀ b, ok b → b ≠ g) : SameX ok w w' := ⟨h.size, fun b hb hl => h.block b hl (hg b hb)⟩
theorem SameX.of_below {ok : Nat → Prop} {w w' : World} (h : Below w.heap.size w w') : SameX ok w w' := ⟨h.size, fun b _ hl => h.block b hl⟩
theorem SameX.four {ok : Nat → Prop} {N : Nat} {w : World} {a b c d : Value} (hN : ∀ b, ok b → b ≠ N) : SameX ok w ((((w.setCell ⟨N, 0, none⟩ a).setCell ⟨N, 1, none⟩ b).setCell ⟨N, 2, none⟩ c).setCell ⟨N, 3, none⟩ d) :=
  ⟨by simp [World.setCell], fun k hk _ => (Below.heap_setCell _ _ _ k (hN k hk)).trans ((Below.heap_setCell _ _ _ k (hN k hk)).trans ((Below.heap_setCell _ _ _ k (hN k hk)).trans (Below.heap_setCell _ _ _ k (hN k hk))))⟩
def TmX (ok : Nat → Prop) (w : World) (t : Tm) (v : Value) : Prop := ∃ A c, v = .agg #[.int .i64 t.f0, .string t.f1, .int .i64 t.f2, .slice A t.f3.length c] ∧ t.f3.length ≤ c ∧ ∀ w2, SameX ok w w2 → Kd.C k26 w2 A t.f3.length t.f3
theorem TmX.same {ok : Nat → Prop} {w w1 : World} {t : Tm} {v : Value} (h : TmX ok w t v) (hp : SameX ok w w1) : TmX ok w1 t v := by
  obtain ⟨A, c, rfl, hl, hC⟩ := h
  exact ⟨A, c, rfl, hl, fun w2 h2 => hC w2 (hp.trans h2)⟩
theorem TmV.toX {base : Nat} {ok : Nat → Prop} {w : World} {t : Tm} {v : Value} (h : TmV base w t v) (hok : ∀ b, base ≤ b → b < w.heap.size → ok b) : TmX ok w t v := by
  obtain ⟨A, c, rfl, hl, hC⟩ := h
  exact ⟨A, c, rfl, hl, fun w2 h2 => hC w2 ⟨h2.size, fun b hb hlt => h2.block b (hok b hb hlt) hlt⟩⟩
theorem TmX.toV {base : Nat} {ok : Nat → Prop} {w : World} {t : Tm} {v : Value} (h : TmX ok w t v) (hok : ∀ b, ok b → base ≤ b) : TmV base w t v := by
  obtain ⟨A, c, rfl, hl, hC⟩ := h
  exact ⟨A, c, rfl, hl, fun w2 h2 => hC w2 ⟨h2.size, fun b hb hlt => h2.block b (hok b hb) hlt⟩⟩
theorem TmX.kids2 {ok : Nat → Prop} {b : Nat} {w : World} {a a' : Tm} {A A' : Option Addr} {c c' : Nat} {fr : Nat × Nat} (k : Int) (nm : ByteArray) (h0 : TmX ok w a (.agg #[.int .i64 a.f0, .string a.f1, .int .i64 a.f2, .slice A a.f3.length c])) (h1 : TmX ok w a' (.agg #[.int .i64 a'.f0, .string a'.f1, .int .i64 a'.f2, .slice A' a'.f3.length c']))
    (hb : w.heap[b]? = some (.cells #[.int .i64 a.f0, .string a.f1, .int .i64 a.f2, .slice A a.f3.length c, .int .i64 a'.f0, .string a'.f1, .int .i64 a'.f2, .slice A' a'.f3.length c'] 26 fr)) (hg : ok b) :
    TmX ok w (tm k nm [a, a']) (.agg #[.int .i64 k, .string nm, .int .i64 0, .slice (some ⟨b, 0, none⟩) 2 2]) := by
  obtain ⟨_, _, e0, hl0, hC0⟩ := h0
  obtain ⟨_, _, e1, hl1, hC1⟩ := h1
  simp only [Value.agg.injEq, Array.mk.injEq, List.cons.injEq, Value.slice.injEq, true_and, and_true] at e0 e1
  obtain ⟨rfl, rfl⟩ := e0
  obtain ⟨rfl, rfl⟩ := e1
  exact ⟨_, 2, rfl, Nat.le_refl _, fun w2 hp => C_lit ((hp.block b hg (blk_lt hb)).trans hb) (Reps.c4 (k26_mk w2 a hl0 (hC0 w2 hp)) (Reps.c4 (k26_mk w2 a' hl1 (hC1 w2 hp)) (Reps.none _ _))) (by show (2 : Nat) ≤ _; decide)⟩
theorem run_parts (k : Nat) (s : List TokT) : run (k + 1) .parts s = (run k .part s).then_ fun t s => run k (.apps t) s := rfl
theorem run_apps (k : Nat) (t : Tm) (s : List TokT) : run (k + 1) (.apps t) s = if beginsL s = true then (run k .part s).then_ fun u s => run k (.apps (tm 4 noName [t, u])) s else PR.ret t s := rfl
/-- What the loop of an application keeps. -/
structure Apps (g : Nat) (A : Option Addr) (c : Nat) (E : Value) (p s : List TokT) (w : World) (n1 : Nat) (res : Option (Tm × List TokT)) (k gk : Nat) (wr : World) : Prop where
  le : gk ≤ k
  ex : ∃ t A3 c3 p' s', run gk (.apps t) s' = some res ∧ p' ++ s' = p ++ s ∧ Rd g A c E p' s' wr ∧ Past g w wr ∧ Own wr w.heap.size zeroV 26 ∧
    Own wr n1 #[.int .i64 t.f0, .string t.f1, .int .i64 t.f2, .slice A3 t.f3.length c3] 26 ∧ TmX (fun b => w.heap.size < b ∧ b ≠ n1) wr t (.agg #[.int .i64 t.f0, .string t.f1, .int .i64 t.f2, .slice A3 t.f3.length c3])
set_option maxRecDepth 100000 in
set_option maxHeartbeats 4000000 in
theorem parts_step (k : Nat) (HP : RH 215 .part k) : RH 197 .parts (k + 1) := by
  intro g A c E p s w res h hrun
  rw [run_parts] at hrun
  have h0 := h.below (below_alloc (Below.refl _ _) (.cells zeroV 26))
  have hlt := h.lt
  have hne : w.heap.size ≠ g := by omega
  have HH := Lib.hid h
  have B2 := Own.new w zeroV 26
  have P0 : Past g w (w.alloc (.cells zeroV 26)) := Past.of_below (below_alloc (Below.refl _ _) _)
  rcases then_some hrun with ⟨hr, rfl⟩ | ⟨t, s', hr, he⟩
  · have KP := Lib.hid (HP.none h0 hr)
    clear hr h0 h hrun
    go_enter Tryz.func197, Tryz.ntmps197
    go_wp2_with fail
    refine KP.out.mono ?_
    rintro e w1 ⟨hp, b, n, rfl, hb⟩
    have P1 := P0.trans hp
    have HB := Lib.hid hb
    clear hp hb
    go_wp2_with fail
    exact ⟨rfl, P1, _, _, rfl, HB.out⟩
  · have KP := Lib.hid (HP.some h0 hr)
    have HE := Lib.hid he
    clear hr h0 h hrun he
    go_enter Tryz.func197, Tryz.ntmps197
    go_wp2_with fail
    refine KP.out.mono ?_
    rintro e w1 ⟨A3, c3, p', rfl, hp, hv, hpp, hrd⟩
    have hN1 : w.heap.size < w1.heap.size := by have := hp.size; simp at this; omega
    have hne1 : w1.heap.size ≠ g := by omega
    have hnn : w.heap.size ≠ w1.heap.size := by omega
    have H0 := Lib.hid (Apps.mk (g := g) (A := A) (c := c) (E := E) (p := p) (s := s) (w := w) (n1 := w1.heap.size) (res := res) (k := k) (gk := k) (wr := w1.alloc (.cells #[.int .i64 t.f0, .string t.f1, .int .i64 t.f2, .slice A3 t.f3.length c3] 26))
      (Nat.le_refl _) ⟨t, A3, c3, p', s', HE.out, hpp, hrd.below (below_alloc (Below.refl _ _) _), (P0.trans hp).alloc _, (B2.past hp hne).alloc _, Own.new w1 _ _, (hv.toX (ok := fun b => w.heap.size < b ∧ b ≠ w1.heap.size) (fun b h1 h2 => ⟨by simp at h1; omega, by omega⟩)).same (SameX.of_below (below_alloc (Below.refl _ _) _))⟩)
    clear hp hpp hrd hv KP HE
    go_wp2_with fail
    go_loopg [] k (fun gk wr => Apps g A c E p s w w1.heap.size res k gk wr)
    case atStart => exact H0.out
    case round =>
      obtain ⟨t, A3, c3, p', s', hrun, hpp, hrd, hP, hB2, hB3, hv⟩ := hrel.ex
      cases gk with
      | zero => cases hrun
      | succ gk =>
      rw [run_apps] at hrun
      have hgk := hrel.le
      have hw1 : w1.heap.size < wr.heap.size := hB3.lt
      have HPP := Lib.hid hpp
      clear hrel hpp H0
      cases hq : beginsL s' with
      | false =>
        rw [hq, if_neg (by decide)] at hrun
        have HE := Lib.hid (Option.some.inj hrun)
        have K := Lib.hid (beginsC g A c E p' s' wr hrd)
        rw [hq] at K
        clear hq hrun
        go_wp2_with fail
        refine K.out.mono ?_
        rintro e w2 ⟨rfl, hb⟩
        have hrd := hrd.below hb
        have hP := hP.trans (Past.of_below hb)
        have hB2 := hB2.past (Past.of_below (g := g) hb) hne
        have hB3 := hB3.past (Past.of_below (g := g) hb) hne1
        have hv := hv.same (SameX.of_below hb)
        have d0 := hB2.cell 0
        have d1 := hB2.cell 1
        have d2 := hB2.cell 2
        have d3 := hB2.cell 3
        have dz := fun i => hB2.fz i
        have q0 := hB3.cell 0
        have q1 := hB3.cell 1
        have q2 := hB3.cell 2
        have q3 := hB3.cell 3
        clear hb
        go_wp2_with fail
        refine ret4 rfl rfl (Own.four hB2) ?_
        have e1 := HE.out
        subst e1
        exact Out.ret HH.out hP (four_set (w3size := 0) (Below.refl _ _)) HPP.out hrd ((hv.same (SameX.four fun b h => by omega)).toV fun b h => by omega)
      | true =>
        have K := Lib.hid (beginsC g A c E p' s' wr hrd)
        rw [hq, if_pos rfl] at hrun
        rw [hq] at K
        clear hq
        rcases then_some hrun with ⟨hr, rfl⟩ | ⟨u, s2, hr, he⟩
        · have HR := Lib.hid (run_le hr (show gk ≤ k by omega))
          clear hr hrun
          go_wp2_with fail
          refine K.out.mono ?_
          rintro e w2 ⟨rfl, hb⟩
          have hrd := hrd.below hb
          have hP := hP.trans (Past.of_below hb)
          have hB3 := hB3.past (Past.of_below (g := g) hb) hne1
          have q0 := hB3.cell 0
          have q1 := hB3.cell 1
          have q2 := hB3.cell 2
          have q3 := hB3.cell 3
          have KP := Lib.hid (HP.none (hrd.below (below_drew (Below.refl _ _))) HR.out)
          have P2 := hP.drew
          clear hb
          go_wp2_with fail
          refine wp_region_any (by kernel_rfl) ?_
          change wpAny _ _ _ _ _ _ _ (World.drew _)
          refine wpAny_take (i := 1) (v := .pointer (some ⟨g, 0, none⟩)) rfl (by kernel_rfl) (by kernel_rfl) (by kernel_rfl) (fun _ _ _ h => h) (Or.inl ⟨by rfl, ?_⟩) ?_
          · intro w; go_simp
          refine wpAny_ready (rs := [0, 2]) (by kernel_rfl) (by simp) ?_
          refine AllReady.cons rfl (fun K hK => ?_) ?_
          · go_simp
            refine hK _ _ ?_
            clear hK K
            refine wpAny_ready (rs := [2]) (by kernel_rfl) (by simp) ?_
            refine AllReady.cons rfl (fun K hK => ?_) AllReady.nil
            go_simp
            refine KP.out.mono ?_
            rintro e w3 ⟨hp, b, n, rfl, hb⟩
            exact ⟨rfl, P2.trans hp, _, _, rfl, hb⟩
          · refine AllReady.cons rfl (fun K hK => ?_) AllReady.nil
            go_simp
            refine KP.out.mono ?_
            rintro e w3 ⟨hp, b, n, rfl, hb⟩
            exact ⟨rfl, P2.trans hp, _, _, rfl, hb⟩
        · have HR := Lib.hid (run_le hr (show gk ≤ k by omega))
          have HE := Lib.hid he
          clear hr hrun he
          go_wp2_with fail
          refine K.out.mono ?_
          rintro e w2 ⟨rfl, hb⟩
          have hrd := hrd.below hb
          have hP := (hP.trans (Past.of_below hb)).drew
          have hB2 := hB2.past (Past.of_below (g := g) hb) hne
          have hB3 := hB3.past (Past.of_below (g := g) hb) hne1
          have hv := (hv.same (SameX.of_below hb)).same (SameX.of_below (below_drew (Below.refl _ _)))
          have hw2 : wr.heap.size ≤ w2.heap.size := hb.size
          have B2d : Own w2.drew w.heap.size zeroV 26 := hB2
          have B3d : Own w2.drew w1.heap.size #[.int .i64 t.f0, .string t.f1, .int .i64 t.f2, .slice A3 t.f3.length c3] 26 := hB3
          have q0 := hB3.cell 0
          have q1 := hB3.cell 1
          have q2 := hB3.cell 2
          have q3 := hB3.cell 3
          have KP := Lib.hid (HP.some (hrd.below (below_drew (Below.refl _ _))) HR.out)
          clear hb hB2 hB3
          go_wp2_with fail
          go_region_with ((go_at_call 215; refine KP.out.mono ?_; rintro e w3 ⟨A4, c4, p2, rfl, hp, hv2, hpp, hrd2⟩; have B3e := B3d.past hp hne1; have q0 := B3e.cell 0; have q1 := B3e.cell 1; have q2 := B3e.cell 2; have q3 := B3e.cell 3; have B3f := B3e.alloc (.cells #[.int .i64 t.f0, .string t.f1, .int .i64 t.f2, .slice A3 t.f3.length c3, .int .i64 u.f0, .string u.f1, .int .i64 u.f2, .slice A4 u.f3.length c4] 26); have d0 := B3f.cell 0; have d1 := B3f.cell 1; have d2 := B3f.cell 2; have d3 := B3f.cell 3; have dz := fun i => B3f.fz i))
          all_goals
            go_wp2_with fail
            have hN3 : w2.heap.size ≤ w3.heap.size := hp.size
            have hp2 : p2 ++ s2 = p ++ s := hpp.trans HPP.out
            have hb5 : ∀ {x0 x1 x2 x3 : Value} {o : Obj}, Below w.heap.size w3 (((((w3.alloc o).setCell ⟨w1.heap.size, 0, none⟩ x0).setCell ⟨w1.heap.size, 1, none⟩ x1).setCell ⟨w1.heap.size, 2, none⟩ x2).setCell ⟨w1.heap.size, 3, none⟩ x3) :=
              ((((belowN_alloc (by omega) _).setCell (Nat.le_of_lt hN1) _).setCell (Nat.le_of_lt hN1) _).setCell (Nat.le_of_lt hN1) _).setCell (Nat.le_of_lt hN1) _
            go_roundg gk
            case measure => omega
            case rel =>
              refine ⟨by omega, tm 4 noName [t, u], some ⟨w3.heap.size, 0, none⟩, 2, p2, s2, HE.out, hp2, HH.out.old hp2 hrd2 hb5, (hP.trans hp).belowN hb5, four_far ((B2d.past hp hne).alloc _) hnn, Own.four B3f, ?_⟩
              exact TmX.kids2 4 noName ((hv.same (SameX.of_past hp fun b h => by omega)).same ((SameX.of_below (below_alloc (Below.refl _ _) _)).trans (SameX.four fun b h => h.2)))
                ((hv2.toX (ok := fun b => w.heap.size < b ∧ b ≠ w1.heap.size) fun b h _ => by have h' : w2.heap.size ≤ b := h; exact ⟨by omega, by omega⟩).same ((SameX.of_below (below_alloc (Below.refl _ _) _)).trans (SameX.four fun b h => h.2)))
                (four_far (blk_new _ _) (by omega)) ⟨by omega, by omega⟩
end Go.Proofs.YtchekgnacodolaaGreatDoor.X

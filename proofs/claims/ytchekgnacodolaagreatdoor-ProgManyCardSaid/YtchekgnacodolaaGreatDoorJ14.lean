-- Joined by our own program (wip/tools/prune.py) out of the seat's texts, less what this claim doesn't name.
import Derived.Test.YtchekgnacodolaaGreatDoorProg
import Derived.Test.YtchekgnacodolaaGreatDoorJ3
import Derived.Test.YtchekgnacodolaaGreatDoorJ8
import Derived.Test.YtchekgnacodolaaGreatDoorJ13
section
namespace Go.Proofs.YtchekgnacodolaaGreatDoor.X
open Go.RowKit Go.Proofs.YtchekgnacodolaaGreatDoorW.PrintWords
set_option linter.unusedSimpArgs false
set_option linter.unusedVariables false
theorem cell_lt {w : World} {a : Addr} {u : Value} (h : w.cell? a = some u) : a.block < w.heap.size := World.block_lt_of_cell? w a h
abbrev tokV (t : TokT) : Value := .agg #[.int .i64 t.f0, .string t.f1, .int .i64 t.f2]
structure Rd (g : Nat) (A : Option Addr) (c : Nat) (E : Value) (p s : List TokT) (w : World) : Prop where
  blk : w.heap[g]? = some (.cells #[.slice A (p ++ s).length c, .int .i64 (p.length : Int)] 144 (0, 0))
  rd : Reads w A c (p ++ s)
  far : 0 < (p ++ s).length → ∀ ad, A = some ad → ad.block ≠ g
  err : w.cell? ⟨0, 0, none⟩ = some E
  errg : 0 ≠ g
  ei : ∃ t v, E = .iface t v
section
variable {w w1 : World} {g : Nat} {A : Option Addr} {c : Nat} {E : Value} {p s : List TokT}
theorem Rd.lt (h : Rd g A c E p s w) : g < w.heap.size := blk_lt h.blk
theorem Rd.c0 (h : Rd g A c E p s w) : w.cell? ⟨g, 0, none⟩ = some (.slice A (p ++ s).length c) := by rw [blk_cell h.blk]; rfl
theorem Rd.c1 (h : Rd g A c E p s w) : w.cell? ⟨g, 1, none⟩ = some (.int .i64 (p.length : Int)) := by rw [blk_cell h.blk]; rfl
theorem Rd.fz (h : Rd g A c E p s w) (j : Nat) : w.frozen? ⟨g, j, none⟩ = false := blk_frozen h.blk j
theorem Rd.below (h : Rd g A c E p s w) (hb : Below w.heap.size w w1) : Rd g A c E p s w1 :=
  ⟨blk_below h.blk hb, h.rd.below hb, h.far, pw_cell_below hb h.err, h.errg, h.ei⟩
theorem Reads.past {l : List TokT} (h : Reads w A c l) (hg : 0 < l.length → ∀ ad, A = some ad → ad.block ≠ g) (hp : Past g w w1) : Reads w1 A c l := by
  refine ⟨⟨h.1.1, h.1.2.1, fun h0 => ?_⟩, h.2⟩
  obtain ⟨ad, hA, hc⟩ := h.1.2.2 h0
  refine ⟨ad, hA, fun j p hj => ?_⟩
  obtain ⟨cs, hl, hk, hcell⟩ := hc j p hj
  refine ⟨cs, hl, ?_, fun i u hi => ?_⟩
  · have := k106_open hk
    rw [this]; exact k106_mk w1 p
  · have h1 := hcell i u hi
    have hlt := cell_lt h1
    rw [World.cell?_of_block (w := w) (by rw [add_block] at hlt ⊢; exact hp.block _ hlt (hg h0 ad hA))]
    exact h1
theorem Rd.step {x : TokT} (h : Rd g A c E p (x :: s) w) : Rd g A c E (p ++ [x]) s (w.setCell ⟨g, 1, none⟩ (.int .i64 ((p.length : Int) + 1))) := by
  have e : p ++ [x] ++ s = p ++ x :: s := by simp
  have hp : Past g w (w.setCell ⟨g, 1, none⟩ (.int .i64 ((p.length : Int) + 1))) := (Past.refl g w).set 1 _
  refine ⟨?_, by rw [e]; exact h.rd.past h.far hp, by rw [e]; exact h.far, ?_, h.errg, h.ei⟩
  · have := blk_set h.blk 1 (.int .i64 ((p.length : Int) + 1))
    rw [this, e]
    have hl : (((p ++ [x]).length : Nat) : Int) = (p.length : Int) + 1 := by rw [List.length_append]; rfl
    rw [hl]; rfl
  · have hlt := cell_lt h.err
    rw [World.cell?_of_block (w := w) (hp.block _ hlt h.errg)]
    exact h.err
theorem Rd.len (h : Rd g A c E p s w) : (p ++ s).length ≤ 9223372036854775807 := h.rd.1.2.1
theorem Rd.get {x : TokT} (h : Rd g A c E p (x :: s) w) : ∃ ad, A = some ad ∧ w.cell? (ad.add (p.length * 3)) = some (.int .i64 x.f0) ∧ w.cell? ⟨(ad.add (p.length * 3)).block, (ad.add (p.length * 3)).off + 1, none⟩ = some (.string x.f1) ∧ w.cell? ⟨(ad.add (p.length * 3)).block, (ad.add (p.length * 3)).off + 2, none⟩ = some (.int .i64 x.f2) := by
  obtain ⟨ad, e, h0, h1, h2⟩ := at_T106 h.rd.1 (p.length : Int) (by omega) (by rw [List.length_append, List.length_cons]; omega)
  have hr : rd_T106 (p ++ x :: s) (p.length : Int) = x := by
    unfold rd_T106
    rw [Int.toNat_natCast, List.getD_eq_getElem?_getD, List.getElem?_append_right (Nat.le_refl _), Nat.sub_self]; rfl
  rw [hr] at h0 h1 h2
  rw [Int.toNat_natCast] at h0 h1 h2
  exact ⟨ad, e, h0, h1, h2⟩
end
def Took (g : Nat) (A : Option Addr) (c : Nat) (E : Value) (p s : List TokT) (w : World) (b : Bool) (e : Ending) (w' : World) : Prop :=
  e = .returned (.bool b) ∧ Past g w w' ∧ (b = false → Rd g A c E p s w') ∧ (b = true → ∃ x r, s = x :: r ∧ Rd g A c E (p ++ [x]) r w')
def TmV (base : Nat) (w : World) (t : Tm) (v : Value) : Prop := ∃ A c, v = .agg #[.int .i64 t.f0, .string t.f1, .int .i64 t.f2, .slice A t.f3.length c] ∧ t.f3.length ≤ c ∧ ∀ w2, Same base w w2 → Kd.C k26 w2 A t.f3.length t.f3
theorem TmV.same {base : Nat} {w w1 : World} {t : Tm} {v : Value} (h : TmV base w t v) (hp : Same base w w1) : TmV base w1 t v := by
  obtain ⟨A, c, rfl, hl, hC⟩ := h
  exact ⟨A, c, rfl, hl, fun w2 h2 => hC w2 (hp.trans h2)⟩
theorem TmV.mono {base base' : Nat} {w : World} {t : Tm} {v : Value} (h : TmV base w t v) (hb : base' ≤ base) : TmV base' w t v := by
  obtain ⟨A, c, rfl, hl, hC⟩ := h
  exact ⟨A, c, rfl, hl, fun w2 h2 => hC w2 (h2.mono hb)⟩
theorem C_nil (w : World) : Kd.C k26 w none 0 [] := ⟨rfl, by decide, fun h => absurd h (by decide)⟩
theorem C_lit {w : World} {b : Nat} {ts : List Tm} {cs : Array Value} {T : TypeId} {fr : Nat × Nat} (hb : w.heap[b]? = some (.cells cs T fr)) (hr : Reps (k26.K w) 4 ts cs.toList) (hn : ts.length ≤ 9223372036854775807) : Kd.C k26 w (some ⟨b, 0, none⟩) ts.length ts := by
  refine ⟨rfl, hn, fun _ => ⟨⟨b, 0, none⟩, rfl, fun j p hj => ⟨(cs.toList.drop (j * 4)).take 4, ?_, hr.2 j p hj, fun i u hi => ?_⟩⟩⟩
  · exact k26.K_len (hr.2 j p hj)
  · rw [List.getElem?_take] at hi
    split at hi
    · rw [List.getElem?_drop] at hi
      show w.cell? ((⟨b, 0, none⟩ : Addr).add (j * 4 + i)) = _
      rw [add_plain, World.cell?, hb]
      simpa using hi
    · cases hi
theorem blk_past {g b : Nat} {w w1 : World} {o : Obj} (h : w.heap[b]? = some o) (hp : Past g w w1) (hg : b ≠ g) : w1.heap[b]? = some o := (hp.block b (blk_lt h) hg).trans h
theorem blk_same {base b : Nat} {w w1 : World} {o : Obj} (h : w.heap[b]? = some o) (hp : Same base w w1) (hg : base ≤ b) : w1.heap[b]? = some o := (hp.block b hg (blk_lt h)).trans h
theorem TmV.K {base : Nat} {w w2 : World} {t : Tm} {A : Option Addr} {c : Nat} (hl : t.f3.length ≤ c) (hC : ∀ w2, Same base w w2 → Kd.C k26 w2 A t.f3.length t.f3) (hp : Same base w w2) : k26.K w2 t [.int .i64 t.f0, .string t.f1, .int .i64 t.f2, .slice A t.f3.length c] := k26_mk w2 t hl (hC w2 hp)
theorem TmV.leaf (base : Nat) (w : World) (k : Int) (nm : ByteArray) (n : Int) : TmV base w ⟨k, nm, n, []⟩ (.agg #[.int .i64 k, .string nm, .int .i64 n, .slice none 0 0]) := ⟨none, 0, rfl, Nat.le_refl _, fun w2 _ => C_nil w2⟩
theorem TmV.kids1 {base b : Nat} {w : World} {a : Tm} {A : Option Addr} {c : Nat} {fr : Nat × Nat} (k : Int) (nm : ByteArray) (h0 : TmV base w a (.agg #[.int .i64 a.f0, .string a.f1, .int .i64 a.f2, .slice A a.f3.length c]))
    (hb : w.heap[b]? = some (.cells #[.int .i64 a.f0, .string a.f1, .int .i64 a.f2, .slice A a.f3.length c] 26 fr)) (hg : base ≤ b) :
    TmV base w (tm k nm [a]) (.agg #[.int .i64 k, .string nm, .int .i64 0, .slice (some ⟨b, 0, none⟩) 1 1]) := by
  obtain ⟨_, _, e0, hl0, hC0⟩ := h0
  simp only [Value.agg.injEq, Array.mk.injEq, List.cons.injEq, Value.slice.injEq, true_and, and_true] at e0
  obtain ⟨rfl, rfl⟩ := e0
  exact ⟨_, 1, rfl, Nat.le_refl _, fun w2 hp => C_lit (blk_same hb hp hg) (Reps.c4 (TmV.K hl0 hC0 hp) (Reps.none _ _)) (by show (1 : Nat) ≤ _; decide)⟩
theorem TmV.kids2 {base b : Nat} {w : World} {a a' : Tm} {A A' : Option Addr} {c c' : Nat} {fr : Nat × Nat} (k : Int) (nm : ByteArray) (h0 : TmV base w a (.agg #[.int .i64 a.f0, .string a.f1, .int .i64 a.f2, .slice A a.f3.length c])) (h1 : TmV base w a' (.agg #[.int .i64 a'.f0, .string a'.f1, .int .i64 a'.f2, .slice A' a'.f3.length c']))
    (hb : w.heap[b]? = some (.cells #[.int .i64 a.f0, .string a.f1, .int .i64 a.f2, .slice A a.f3.length c, .int .i64 a'.f0, .string a'.f1, .int .i64 a'.f2, .slice A' a'.f3.length c'] 26 fr)) (hg : base ≤ b) :
    TmV base w (tm k nm [a, a']) (.agg #[.int .i64 k, .string nm, .int .i64 0, .slice (some ⟨b, 0, none⟩) 2 2]) := by
  obtain ⟨_, _, e0, hl0, hC0⟩ := h0
  obtain ⟨_, _, e1, hl1, hC1⟩ := h1
  simp only [Value.agg.injEq, Array.mk.injEq, List.cons.injEq, Value.slice.injEq, true_and, and_true] at e0 e1
  obtain ⟨rfl, rfl⟩ := e0
  obtain ⟨rfl, rfl⟩ := e1
  exact ⟨_, 2, rfl, Nat.le_refl _, fun w2 hp => C_lit (blk_same hb hp hg) (Reps.c4 (TmV.K hl0 hC0 hp) (Reps.c4 (TmV.K hl1 hC1 hp) (Reps.none _ _))) (by show (2 : Nat) ≤ _; decide)⟩
theorem TmV.kids3 {base b : Nat} {w : World} {a a' a2 : Tm} {A A' A2 : Option Addr} {c c' c2 : Nat} {fr : Nat × Nat} (k : Int) (nm : ByteArray) (h0 : TmV base w a (.agg #[.int .i64 a.f0, .string a.f1, .int .i64 a.f2, .slice A a.f3.length c])) (h1 : TmV base w a' (.agg #[.int .i64 a'.f0, .string a'.f1, .int .i64 a'.f2, .slice A' a'.f3.length c'])) (h2 : TmV base w a2 (.agg #[.int .i64 a2.f0, .string a2.f1, .int .i64 a2.f2, .slice A2 a2.f3.length c2]))
    (hb : w.heap[b]? = some (.cells #[.int .i64 a.f0, .string a.f1, .int .i64 a.f2, .slice A a.f3.length c, .int .i64 a'.f0, .string a'.f1, .int .i64 a'.f2, .slice A' a'.f3.length c', .int .i64 a2.f0, .string a2.f1, .int .i64 a2.f2, .slice A2 a2.f3.length c2] 26 fr)) (hg : base ≤ b) :
    TmV base w (tm k nm [a, a', a2]) (.agg #[.int .i64 k, .string nm, .int .i64 0, .slice (some ⟨b, 0, none⟩) 3 3]) := by
  obtain ⟨_, _, e0, hl0, hC0⟩ := h0
  obtain ⟨_, _, e1, hl1, hC1⟩ := h1
  obtain ⟨_, _, e2, hl2, hC2⟩ := h2
  simp only [Value.agg.injEq, Array.mk.injEq, List.cons.injEq, Value.slice.injEq, true_and, and_true] at e0 e1 e2
  obtain ⟨rfl, rfl⟩ := e0
  obtain ⟨rfl, rfl⟩ := e1
  obtain ⟨rfl, rfl⟩ := e2
  exact ⟨_, 3, rfl, Nat.le_refl _, fun w2 hp => C_lit (blk_same hb hp hg) (Reps.c4 (TmV.K hl0 hC0 hp) (Reps.c4 (TmV.K hl1 hC1 hp) (Reps.c4 (TmV.K hl2 hC2 hp) (Reps.none _ _)))) (by show (3 : Nat) ≤ _; decide)⟩
def Fails (g : Nat) (E : Value) (w : World) (e : Ending) (w' : World) : Prop :=
  Past g w w' ∧ ∃ b n, e = .panicked [{ v := .iface 140 (.pointer (some ⟨b, 0, none⟩)), recovered := false }] ∧ w'.heap[b]? = some (.cells #[.int .i64 n, E] 188 (0, 0))
def Out (g : Nat) (A : Option Addr) (c : Nat) (E : Value) (p s : List TokT) (w : World) (res : Option (Tm × List TokT)) (e : Ending) (w' : World) : Prop :=
  match res with
  | some (t, s') => Past g w w' ∧ ∃ v p', e = .returned v ∧ TmV w.heap.size w' t v ∧ p' ++ s' = p ++ s ∧ Rd g A c E p' s' w'
  | none => Fails g E w e w'
theorem Rd.old {g : Nat} {A : Option Addr} {c : Nat} {E : Value} {p s p0 s0 : List TokT} {w0 w w1 : World} (h0 : Rd g A c E p0 s0 w0) (hpp : p ++ s = p0 ++ s0) (h : Rd g A c E p s w) (hb : Below w0.heap.size w w1) : Rd g A c E p s w1 := by
  have hc : ∀ {a : Addr} {u : Value}, w.cell? a = some u → a.block < w0.heap.size → w1.cell? a = some u := fun {a u} hu hl => (hb.cell hl).trans hu
  refine ⟨(hb.block g h0.lt).trans h.blk, ⟨⟨h.rd.1.1, h.rd.1.2.1, fun hn => ?_⟩, h.rd.2⟩, h.far, hc h.err (cell_lt h0.err), h.errg, h.ei⟩
  obtain ⟨ad, hA, hcc⟩ := h.rd.1.2.2 hn
  refine ⟨ad, hA, fun j q hj => ?_⟩
  obtain ⟨cs, hl, hk, hcell⟩ := hcc j q hj
  have hk2 := k106_open hk
  refine ⟨cs, hl, by rw [hk2]; exact k106_mk w1 q, fun i u hi => hc (hcell i u hi) ?_⟩
  rw [add_block]
  obtain ⟨ad0, hA0, hcc0⟩ := h0.rd.1.2.2 (by rw [← hpp]; exact hn)
  rw [hA] at hA0
  injection hA0 with e0
  subst e0
  obtain ⟨cs0, hl0, hk0, hcell0⟩ := hcc0 j q (by rw [← hpp]; exact hj)
  have h00 := hcell0 0 _ (by rw [k106_open hk0]; rfl)
  have := cell_lt h00
  rwa [add_block] at this
theorem Past.belowN {g : Nat} {w0 w w1 : World} (h : Past g w0 w) (hb : Below w0.heap.size w w1) : Past g w0 w1 :=
  ⟨hb.os.trans h.os, hb.tape.trans h.tape, hb.output.trans h.output, Nat.le_trans h.size hb.size, fun k hk hg => (hb.block k hk).trans (h.block k hk hg)⟩
theorem Out.ret {g : Nat} {A : Option Addr} {c : Nat} {E : Value} {p s p' s' : List TokT} {w w3 w5 : World} {t : Tm} {v : Value} (h0 : Rd g A c E p s w) (hP : Past g w w3) (hb : Below w.heap.size w3 w5) (hpp : p' ++ s' = p ++ s) (hr : Rd g A c E p' s' w3) (hT : TmV w.heap.size w5 t v) : Out g A c E p s w (some (t, s')) (.returned v) w5 :=
  ⟨hP.belowN hb, v, p', rfl, hT, hpp, h0.old hpp hr hb⟩
end Go.Proofs.YtchekgnacodolaaGreatDoor.X
end

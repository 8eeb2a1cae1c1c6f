-- Joined by our own program (wip/tools/prune.py) out of the seat's texts, less what this claim doesn't name.
import Derived.Test.YtchekgnacodolaaDoorProg
import Derived.Test.YtchekgnacodolaaDoorJ4
import Derived.Test.YtchekgnacodolaaDoorJ8
import Derived.Test.YtchekgnacodolaaDoorJ13
section
namespace Go.Proofs.YtchekgnacodolaaDoor.X
open Go.RowKit Go.Proofs.YtchekgnacodolaaDoorW.PrintWords
set_option linter.unusedSimpArgs false
set_option linter.unusedVariables false
theorem cell_lt {w : World} {a : Addr} {u : Value} (h : w.cell? a = some u) : a.block < w.heap.size := World.block_lt_of_cell? w a h
section
variable {w w1 : World} {g : Nat} {A : Option Addr} {c : Nat} {E : Value} {p s : List TokT}
theorem Reads.past {l : List TokT} (h : Reads w A c l) (hg : 0 < l.length → ∀ ad, A = some ad → ad.block ≠ g) (hp : Past g w w1) : Reads w1 A c l := by
  refine ⟨⟨h.1.1, h.1.2.1, fun h0 => ?_⟩, h.2⟩
  obtain ⟨ad, hA, hc⟩ := h.1.2.2 h0
  refine ⟨ad, hA, fun j p hj => ?_⟩
  obtain ⟨cs, hl, hk, hcell⟩ := hc j p hj
  refine ⟨cs, hl, ?_, fun i u hi => ?_⟩
  · have := k37_open hk
    rw [this]; exact k37_mk w1 p
  · have h1 := hcell i u hi
    have hlt := cell_lt h1
    rw [World.cell?_of_block (w := w) (by rw [add_block] at hlt ⊢; exact hp.block _ hlt (hg h0 ad hA))]
    exact h1
end
def TmV (base : Nat) (w : World) (t : Tm) (v : Value) : Prop := ∃ A c, v = .agg #[.int .i64 t.f0, .string t.f1, .int .i64 t.f2, .slice A t.f3.length c] ∧ t.f3.length ≤ c ∧ ∀ w2, Same base w w2 → Kd.C k26 w2 A t.f3.length t.f3
theorem TmV.same {base : Nat} {w w1 : World} {t : Tm} {v : Value} (h : TmV base w t v) (hp : Same base w w1) : TmV base w1 t v := by
  obtain ⟨A, c, rfl, hl, hC⟩ := h
  exact ⟨A, c, rfl, hl, fun w2 h2 => hC w2 (hp.trans h2)⟩
theorem TmV.mono {base base' : Nat} {w : World} {t : Tm} {v : Value} (h : TmV base w t v) (hb : base' ≤ base) : TmV base' w t v := by
  obtain ⟨A, c, rfl, hl, hC⟩ := h
  exact ⟨A, c, rfl, hl, fun w2 h2 => hC w2 (h2.mono hb)⟩
theorem C_nil (w : World) : Kd.C k26 w none 0 [] := ⟨rfl, by decide, fun h => absurd h (by decide)⟩
theorem C_lit {w : World} {b : Nat} {ts : List Tm} {cs : Array Value} {T : TypeId} {fr : Nat × Nat} (hb : w.heap[b]? = some (.cells cs T fr)) (hr : Reps (k26.K w) 4 ts cs.toList) (hn : ts.length ≤ 9223372036854775807) : Kd.C k26 w (some ⟨b, 0, none⟩) ts.length ts := by
  refine ⟨rfl, hn, fun _ => ⟨⟨b, 0, none⟩, rfl, fun j p hj => ⟨(cs.toList.drop (j * 4)).take 4, ?_, hr.2 j p hj, fun i u hi => ?_⟩⟩⟩
  · exact k26.K_len (hr.2 j p hj)
  · rw [List.getElem?_take] at hi
    split at hi
    · rw [List.getElem?_drop] at hi
      show w.cell? ((⟨b, 0, none⟩ : Addr).add (j * 4 + i)) = _
      rw [add_plain, World.cell?, hb]
      simpa using hi
    · cases hi
theorem blk_past {g b : Nat} {w w1 : World} {o : Obj} (h : w.heap[b]? = some o) (hp : Past g w w1) (hg : b ≠ g) : w1.heap[b]? = some o := (hp.block b (blk_lt h) hg).trans h
theorem blk_same {base b : Nat} {w w1 : World} {o : Obj} (h : w.heap[b]? = some o) (hp : Same base w w1) (hg : base ≤ b) : w1.heap[b]? = some o := (hp.block b hg (blk_lt h)).trans h
theorem TmV.K {base : Nat} {w w2 : World} {t : Tm} {A : Option Addr} {c : Nat} (hl : t.f3.length ≤ c) (hC : ∀ w2, Same base w w2 → Kd.C k26 w2 A t.f3.length t.f3) (hp : Same base w w2) : k26.K w2 t [.int .i64 t.f0, .string t.f1, .int .i64 t.f2, .slice A t.f3.length c] := k26_mk w2 t hl (hC w2 hp)
theorem TmV.leaf (base : Nat) (w : World) (k : Int) (nm : ByteArray) (n : Int) : TmV base w ⟨k, nm, n, []⟩ (.agg #[.int .i64 k, .string nm, .int .i64 n, .slice none 0 0]) := ⟨none, 0, rfl, Nat.le_refl _, fun w2 _ => C_nil w2⟩
theorem TmV.kids1 {base b : Nat} {w : World} {a : Tm} {A : Option Addr} {c : Nat} {fr : Nat × Nat} (k : Int) (nm : ByteArray) (h0 : TmV base w a (.agg #[.int .i64 a.f0, .string a.f1, .int .i64 a.f2, .slice A a.f3.length c]))
    (hb : w.heap[b]? = some (.cells #[.int .i64 a.f0, .string a.f1, .int .i64 a.f2, .slice A a.f3.length c] 26 fr)) (hg : base ≤ b) :
    TmV base w (tm k nm [a]) (.agg #[.int .i64 k, .string nm, .int .i64 0, .slice (some ⟨b, 0, none⟩) 1 1]) := by
  obtain ⟨_, _, e0, hl0, hC0⟩ := h0
  simp only [Value.agg.injEq, Array.mk.injEq, List.cons.injEq, Value.slice.injEq, true_and, and_true] at e0
  obtain ⟨rfl, rfl⟩ := e0
  exact ⟨_, 1, rfl, Nat.le_refl _, fun w2 hp => C_lit (blk_same hb hp hg) (Reps.c4 (TmV.K hl0 hC0 hp) (Reps.none _ _)) (by show (1 : Nat) ≤ _; decide)⟩
theorem TmV.kids2 {base b : Nat} {w : World} {a a' : Tm} {A A' : Option Addr} {c c' : Nat} {fr : Nat × Nat} (k : Int) (nm : ByteArray) (h0 : TmV base w a (.agg #[.int .i64 a.f0, .string a.f1, .int .i64 a.f2, .slice A a.f3.length c])) (h1 : TmV base w a' (.agg #[.int .i64 a'.f0, .string a'.f1, .int .i64 a'.f2, .slice A' a'.f3.length c']))
    (hb : w.heap[b]? = some (.cells #[.int .i64 a.f0, .string a.f1, .int .i64 a.f2, .slice A a.f3.length c, .int .i64 a'.f0, .string a'.f1, .int .i64 a'.f2, .slice A' a'.f3.length c'] 26 fr)) (hg : base ≤ b) :
    TmV base w (tm k nm [a, a']) (.agg #[.int .i64 k, .string nm, .int .i64 0, .slice (some ⟨b, 0, none⟩) 2 2]) := by
  obtain ⟨_, _, e0, hl0, hC0⟩ := h0
  obtain ⟨_, _, e1, hl1, hC1⟩ := h1
  simp only [Value.agg.injEq, Array.mk.injEq, List.cons.injEq, Value.slice.injEq, true_and, and_true] at e0 e1
  obtain ⟨rfl, rfl⟩ := e0
  obtain ⟨rfl, rfl⟩ := e1
  exact ⟨_, 2, rfl, Nat.le_refl _, fun w2 hp => C_lit (blk_same hb hp hg) (Reps.c4 (TmV.K hl0 hC0 hp) (Reps.c4 (TmV.K hl1 hC1 hp) (Reps.none _ _))) (by show (2 : Nat) ≤ _; decide)⟩
theorem Past.belowN {g : Nat} {w0 w w1 : World} (h : Past g w0 w) (hb : Below w0.heap.size w w1) : Past g w0 w1 :=
  ⟨hb.os.trans h.os, hb.tape.trans h.tape, hb.output.trans h.output, Nat.le_trans h.size hb.size, fun k hk hg => (hb.block k hk).trans (h.block k hk hg)⟩
end Go.Proofs.YtchekgnacodolaaDoor.X
end

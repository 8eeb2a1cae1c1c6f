-- Joined by our own program (wip/tools/prune.py) out of the seat's texts, less what this claim doesn't name.
import Derived.Test.YtchekgnacodolaaGreatDoorProg
import Derived.Test.YtchekgnacodolaaGreatDoorJ3
import Derived.Test.YtchekgnacodolaaGreatDoorJ12
import Derived.Test.YtchekgnacodolaaGreatDoorJ17
section
namespace Go.Proofs.YtchekgnacodolaaGreatDoor.X
open Go.RowKit Go.Proofs.YtchekgnacodolaaGreatDoorW.PrintWords
set_option linter.unusedSimpArgs false
set_option linter.unusedVariables false
theorem cell_lt {w : World} {a : Addr} {u : Value} (h : w.cell? a = some u) : a.block < w.heap.size := World.block_lt_of_cell? w a h
abbrev tokV (t : TokT) : Value := .agg #[.int .i64 t.f0, .string t.f1, .int .i64 t.f2]
structure Rd (g : Nat) (A : Option Addr) (c : Nat) (E : Value) (p s : List TokT) (w : World) : Prop where
 blk : w.heap[g]? = some (.cells #[.slice A (p ++ s).length c, .int .i64 (p.length : Int)] 144 (0, 0))
 rd : Reads w A c (p ++ s)
 far : 0 < (p ++ s).length → ∀ ad, A = some ad → ad.block ≠ g
 err : w.cell? ⟨0, 0, none⟩ = some E
 errg : 0 ≠ g
 ei : ∃ t v, E = .iface t v
section
variable {w w1 : World} {g : Nat} {A : Option Addr} {c : Nat} {E : Value} {p s : List TokT}
theorem Rd.lt (h : Rd g A c E p s w) : g < w.heap.size := blk_lt h.blk
theorem Rd.c0 (h : Rd g A c E p s w) : w.cell? ⟨g, 0, none⟩ = some (.slice A (p ++ s).length c) := by rw [zqf h.blk]; rfl
theorem Rd.c1 (h : Rd g A c E p s w) : w.cell? ⟨g, 1, none⟩ = some (.int .i64 (p.length : Int)) := by rw [zqf h.blk]; rfl
theorem Rd.fz (h : Rd g A c E p s w) (j : Nat) : w.frozen? ⟨g, j, none⟩ = false := zqd h.blk j
theorem Rd.below (h : Rd g A c E p s w) (hb : Below w.heap.size w w1) : Rd g A c E p s w1 :=
 ⟨zqn h.blk hb, h.rd.below hb, h.far, zqt hb h.err, h.errg, h.ei⟩
theorem Reads.past {l : List TokT} (h : Reads w A c l) (hg : 0 < l.length → ∀ ad, A = some ad → ad.block ≠ g) (hp : Past g w w1) : Reads w1 A c l := by
 refine ⟨⟨h.1.1, h.1.2.1, fun h0 => ?_⟩, h.2⟩
 obtain ⟨ad, hA, hc⟩ := h.1.2.2 h0
 refine ⟨ad, hA, fun j p hj => ?_⟩
 obtain ⟨cs, hl, hk, hcell⟩ := hc j p hj
 refine ⟨cs, hl, ?_, fun i u hi => ?_⟩
 ·have := k106_open hk
  rw [this]; exact k106_mk w1 p
 ·have h1 := hcell i u hi
  have hlt := cell_lt h1
  rw [World.cell?_of_block (w := w) (by rw [add_block] at hlt ⊢; exact hp.block _ hlt (hg h0 ad hA))]
  exact h1
theorem Rd.step {x : TokT} (h : Rd g A c E p (x :: s) w) : Rd g A c E (p ++ [x]) s (w.setCell ⟨g, 1, none⟩ (.int .i64 ((p.length : Int) + 1))) := by
 have e : p ++ [x] ++ s = p ++ x :: s := by simp
 have hp : Past g w (w.setCell ⟨g, 1, none⟩ (.int .i64 ((p.length : Int) + 1))) := (Past.refl g w).set 1 _
 refine ⟨?_, by rw [e]; exact h.rd.past h.far hp, by rw [e]; exact h.far, ?_, h.errg, h.ei⟩
 ·have := blk_set h.blk 1 (.int .i64 ((p.length : Int) + 1))
  rw [this, e]
  have hl : (((p ++ [x]).length : Nat) : Int) = (p.length : Int) + 1 := by rw [List.length_append]; rfl
  rw [hl]; rfl
 ·have hlt := cell_lt h.err
  rw [World.cell?_of_block (w := w) (hp.block _ hlt h.errg)]
  exact h.err
theorem Rd.len (h : Rd g A c E p s w) : (p ++ s).length ≤ 9223372036854775807 := h.rd.1.2.1
theorem Rd.get {x : TokT} (h : Rd g A c E p (x :: s) w) : ∃ ad, A = some ad ∧ w.cell? (ad.add (p.length * 3)) = some (.int .i64 x.f0) ∧ w.cell? ⟨(ad.add (p.length * 3)).block, (ad.add (p.length * 3)).off + 1, none⟩ = some (.string x.f1) ∧ w.cell? ⟨(ad.add (p.length * 3)).block, (ad.add (p.length * 3)).off + 2, none⟩ = some (.int .i64 x.f2) := by
 obtain ⟨ad, e, h0, h1, h2⟩ := at_T106 h.rd.1 (p.length : Int) (by omega) (by rw [List.length_append, List.length_cons]; omega)
 have hr : zqw (p ++ x :: s) (p.length : Int) = x := by
  unfold zqw
  rw [Int.toNat_natCast, List.getD_eq_getElem?_getD, List.getElem?_append_right (Nat.le_refl _), Nat.sub_self]; rfl
 rw [hr] at h0 h1 h2
 rw [Int.toNat_natCast] at h0 h1 h2
 exact ⟨ad, e, h0, h1, h2⟩
end
def Took (g : Nat) (A : Option Addr) (c : Nat) (E : Value) (p s : List TokT) (w : World) (b : Bool) (e : Ending) (w' : World) : Prop :=
 e = .returned (.bool b) ∧ Past g w w' ∧ (b = false → Rd g A c E p s w') ∧ (b = true → ∃ x r, s = x :: r ∧ Rd g A c E (p ++ [x]) r w')
def TmV (base : Nat) (w : World) (t : Tm) (v : Value) : Prop := ∃ A c, v = .agg #[.int .i64 t.f0, .string t.f1, .int .i64 t.f2, .slice A t.f3.length c] ∧ t.f3.length ≤ c ∧ ∀ w2, Same base w w2 → Kd.C k26 w2 A t.f3.length t.f3
theorem TmV.same {base : Nat} {w w1 : World} {t : Tm} {v : Value} (h : TmV base w t v) (hp : Same base w w1) : TmV base w1 t v := by
 obtain ⟨A, c, rfl, hl, hC⟩ := h
 exact ⟨A, c, rfl, hl, fun w2 h2 => hC w2 (hp.trans h2)⟩
theorem TmV.mono {base base' : Nat} {w : World} {t : Tm} {v : Value} (h : TmV base w t v) (hb : base' ≤ base) : TmV base' w t v := by
 obtain ⟨A, c, rfl, hl, hC⟩ := h
 exact ⟨A, c, rfl, hl, fun w2 h2 => hC w2 (h2.mono hb)⟩
theorem C_nil (w : World) : Kd.C k26 w none 0 [] := ⟨rfl, by decide, fun h => absurd h (by decide)⟩
theorem C_lit {w : World} {b : Nat} {ts : List Tm} {cs : Array Value} {T : TypeId} {fr : Nat × Nat} (hb : w.heap[b]? = some (.cells cs T fr)) (hr : Reps (k26.K w) 4 ts cs.toList) (hn : ts.length ≤ 9223372036854775807) : Kd.C k26 w (some ⟨b, 0, none⟩) ts.length ts := by
 refine ⟨rfl, hn, fun _ => ⟨⟨b, 0, none⟩, rfl, fun j p hj => ⟨(cs.toList.drop (j * 4)).take 4, ?_, hr.2 j p hj, fun i u hi => ?_⟩⟩⟩
 ·exact k26.K_len (hr.2 j p hj)
 ·rw [List.getElem?_take] at hi
  split at hi
  ·rw [List.getElem?_drop] at hi
   show w.cell? ((⟨b, 0, none⟩ : Addr).add (j * 4 + i)) = _
   rw [add_plain, World.cell?, hb]
   simpa using hi
  ·cases hi
theorem blk_past {g b : Nat} {w w1 : World} {o : Obj} (h : w.heap[b]? = some o) (hp : Past g w w1) (hg : b ≠ g) : w1.heap[b]? = some o := (hp.block b (blk_lt h) hg).trans h
theorem blk_same {base b : Nat} {w w1 : World} {o : Obj} (h : w.heap[b]? = some o) (hp : Same base w w1) (hg : base ≤ b) : w1.heap[b]? = some o := (hp.block b hg (blk_lt h)).trans h
theorem TmV.K {base : Nat} {w w2 : World} {t : Tm} {A : Option Addr} {c : Nat} (hl : t.f3.length ≤ c) (hC : ∀ w2, Same base w w2 → Kd.C k26 w2 A t.f3.length t.f3) (hp : Same base w w2) : k26.K w2 t [.int .i64 t.f0, .string t.f1, .int .i64 t.f2, .slice A t.f3.length c] := k26_mk w2 t hl (hC w2 hp)
theorem TmV.leaf (base : Nat) (w : World) (k : Int) (nm : ByteArray) (n : Int) : TmV base w ⟨k, nm, n, []⟩ (.agg #[.int .i64 k, .string nm, .int .i64 n, .slice none 0 0]) := ⟨none, 0, rfl, Nat.le_refl _, fun w2 _ => C_nil w2⟩
theorem TmV.kids1 {base b : Nat} {w : World} {a : Tm} {A : Option Addr} {c : Nat} {fr : Nat × Nat} (k : Int) (nm : ByteArray) (h0 : TmV base w a (.agg #[.int .i64 a.f0, .string a.f1, .int .i64 a.f2, .slice A a.f3.length c]))
  (hb : w.heap[b]? = some (.cells #[.int .i64 a.f0, .string a.f1, .int .i64 a.f2, .slice A a.f3.length c] 26 fr)) (hg : base ≤ b) :
  TmV base w (tm k nm [a]) (.agg #[.int .i64 k, .string nm, .int .i64 0, .slice (some ⟨b, 0, none⟩) 1 1]) := by
 obtain ⟨_, _, e0, hl0, hC0⟩ := h0
 simp only [Value.agg.injEq, Array.mk.injEq, List.cons.injEq, Value.slice.injEq, true_and, and_true] at e0
 obtain ⟨rfl, rfl⟩ := e0
 exact ⟨_, 1, rfl, Nat.le_refl _, fun w2 hp => C_lit (blk_same hb hp hg) (Reps.c4 (TmV.K hl0 hC0 hp) (Reps.none _ _)) (by show (1 : Nat) ≤ _; decide)⟩
theorem TmV.kids2 {base b : Nat} {w : World} {a a' : Tm} {A A' : Option Addr} {c c' : Nat} {fr : Nat × Nat} (k : Int) (nm : ByteArray) (h0 : TmV base w a (.agg #[.int .i64 a.f0, .string a.f1, .int .i64 a.f2, .slice A a.f3.length c])) (h1 : TmV base w a' (.agg #[.int .i64 a'.f0, .string a'.f1, .int .i64 a'.f2, .slice A' a'.f3.length c']))
  (hb : w.heap[b]? = some (.cells #[.int .i64 a.f0, .string a.f1, .int .i64 a.f2, .slice A a.f3.length c, .int .i64 a'.f0, .string a'.f1, .int .i64 a'.f2, .slice A' a'.f3.length c'] 26 fr)) (hg : base ≤ b) :
  TmV base w (tm k nm [a, a']) (.agg #[.int .i64 k, .string nm, .int .i64 0, .slice (some ⟨b, 0, none⟩) 2 2]) := by
 obtain ⟨_, _, e0, hl0, hC0⟩ := h0
 obtain ⟨_, _, e1, hl1, hC1⟩ := h1
 simp only [Value.agg.injEq, Array.mk.injEq, List.cons.injEq, Value.slice.injEq, true_and, and_true] at e0 e1
 obtain ⟨rfl, rfl⟩ := e0
 obtain ⟨rfl, rfl⟩ := e1
 exact ⟨_, 2, rfl, Nat.le_refl _, fun w2 hp => C_lit (blk_same hb hp hg) (Reps.c4 (TmV.K hl0 hC0 hp) (Reps.c4 (TmV.K hl1 hC1 hp) (Reps.none _ _))) (by show (2 : Nat) ≤ _; decide)⟩
theorem TmV.kids3 {base b : Nat} {w : World} {a a' a2 : Tm} {A A' A2 : Option Addr} {c c' c2 : Nat} {fr : Nat × Nat} (k : Int) (nm : ByteArray) (h0 : TmV base w a (.agg #[.int .i64 a.f0, .string a.f1, .int .i64 a.f2, .slice A a.f3.length c])) (h1 : TmV base w a' (.agg #[.int .i64 a'.f0, .string a'.f1, .int .i64 a'.f2, .slice A' a'.f3.length c'])) (h2 : TmV base w a2 (.agg #[.int .i64 a2.f0, .string a2.f1, .int .i64 a2.f2, .slice A2 a2.f3.length c2]))
  (hb : w.heap[b]? = some (.cells #[.int .i64 a.f0, .string a.f1, .int .i64 a.f2, .slice A a.f3.length c, .int .i64 a'.f0, .string a'.f1, .int .i64 a'.f2, .slice A' a'.f3.length c', .int .i64 a2.f0, .string a2.f1, .int .i64 a2.f2, .slice A2 a2.f3.length c2] 26 fr)) (hg : base ≤ b) :
  TmV base w (tm k nm [a, a', a2]) (.agg #[.int .i64 k, .string nm, .int .i64 0, .slice (some ⟨b, 0, none⟩) 3 3]) := by
 obtain ⟨_, _, e0, hl0, hC0⟩ := h0
 obtain ⟨_, _, e1, hl1, hC1⟩ := h1
 obtain ⟨_, _, e2, hl2, hC2⟩ := h2
 simp only [Value.agg.injEq, Array.mk.injEq, List.cons.injEq, Value.slice.injEq, true_and, and_true] at e0 e1 e2
 obtain ⟨rfl, rfl⟩ := e0
 obtain ⟨rfl, rfl⟩ := e1
 obtain ⟨rfl, rfl⟩ := e2
 exact ⟨_, 3, rfl, Nat.le_refl _, fun w2 hp => C_lit (blk_same hb hp hg) (Reps.c4 (TmV.K hl0 hC0 hp) (Reps.c4 (TmV.K hl1 hC1 hp) (Reps.c4 (TmV.K hl2 hC2 hp) (Reps.none _ _)))) (by show (3 : Nat) ≤ _; decide)⟩
def Fails (g : Nat) (E : Value) (w : World) (e : Ending) (w' : World) : Prop :=
 Past g w w' ∧ ∃ b n, e = .panicked [{ v := .iface 140 (.pointer (some ⟨b, 0, none⟩)), recovered := false }] ∧ w'.heap[b]? = some (.cells #[.int .i64 n, E] 188 (0, 0))
def Out (g : Nat) (A : Option Addr) (c : Nat) (E : Value) (p s : List TokT) (w : World) (res : Option (Tm × List TokT)) (e : Ending) (w' : World) : Prop :=
 match res with
 | some (t, s') => Past g w w' ∧ ∃ v p', e = .returned v ∧ TmV w.heap.size w' t v ∧ p' ++ s' = p ++ s ∧ Rd g A c E p' s' w'
 | none => Fails g E w e w'
theorem Rd.old {g : Nat} {A : Option Addr} {c : Nat} {E : Value} {p s p0 s0 : List TokT} {w0 w w1 : World} (h0 : Rd g A c E p0 s0 w0) (hpp : p ++ s = p0 ++ s0) (h : Rd g A c E p s w) (hb : Below w0.heap.size w w1) : Rd g A c E p s w1 := by
 have hc : ∀ {a : Addr} {u : Value}, w.cell? a = some u → a.block < w0.heap.size → w1.cell? a = some u := fun {a u} hu hl => (hb.cell hl).trans hu
 refine ⟨(hb.block g h0.lt).trans h.blk, ⟨⟨h.rd.1.1, h.rd.1.2.1, fun hn => ?_⟩, h.rd.2⟩, h.far, hc h.err (cell_lt h0.err), h.errg, h.ei⟩
 obtain ⟨ad, hA, hcc⟩ := h.rd.1.2.2 hn
 refine ⟨ad, hA, fun j q hj => ?_⟩
 obtain ⟨cs, hl, hk, hcell⟩ := hcc j q hj
 have hk2 := k106_open hk
 refine ⟨cs, hl, by rw [hk2]; exact k106_mk w1 q, fun i u hi => hc (hcell i u hi) ?_⟩
 rw [add_block]
 obtain ⟨ad0, hA0, hcc0⟩ := h0.rd.1.2.2 (by rw [← hpp]; exact hn)
 rw [hA] at hA0
 injection hA0 with e0
 subst e0
 obtain ⟨cs0, hl0, hk0, hcell0⟩ := hcc0 j q (by rw [← hpp]; exact hj)
 have h00 := hcell0 0 _ (by rw [k106_open hk0]; rfl)
 have := cell_lt h00
 rwa [add_block] at this
theorem Past.belowN {g : Nat} {w0 w w1 : World} (h : Past g w0 w) (hb : Below w0.heap.size w w1) : Past g w0 w1 :=
 ⟨hb.os.trans h.os, hb.tape.trans h.tape, hb.output.trans h.output, Nat.le_trans h.size hb.size, fun k hk hg => (hb.block k hk).trans (h.block k hk hg)⟩
theorem Out.ret {g : Nat} {A : Option Addr} {c : Nat} {E : Value} {p s p' s' : List TokT} {w w3 w5 : World} {t : Tm} {v : Value} (h0 : Rd g A c E p s w) (hP : Past g w w3) (hb : Below w.heap.size w3 w5) (hpp : p' ++ s' = p ++ s) (hr : Rd g A c E p' s' w3) (hT : TmV w.heap.size w5 t v) : Out g A c E p s w (some (t, s')) (.returned v) w5 :=
 ⟨hP.belowN hb, v, p', rfl, hT, hpp, h0.old hpp hr hb⟩
end Go.Proofs.YtchekgnacodolaaGreatDoor.X
end
section
namespace Go.Proofs.YtchekgnacodolaaGreatDoor.X
set_option linter.unusedSimpArgs false
set_option linter.unusedVariables false
abbrev FS := Bool × List TokT
abbrev FR := Option (Tm × FS)
def FR.then_ (x : FR) (f : Tm → FS → FR) : FR := match x with
 | none => none
 | some (t, q) => f t q
def fMust (m : ByteArray) (q : FS) : FS := if isL q.2 m = true then (q.1, q.2.tail) else (true, q.2)
def fName (q : FS) : ByteArray × FS := if (peekL q.2).f0 = 1 then ((peekL q.2).f1, (q.1, q.2.tail)) else (noName, (true, q.2))
def frun : Nat → Mode → FS → FR
 | 0, _, _ => none
 | k + 1, .part, q =>
  if q.1 = true ∨ beginsL q.2 = false then some (zTm, (true, q.2))
  else if isL q.2 mGet = true then (frun k .part (q.1, q.2.tail)).then_ fun t q => some (tm 10 noName [t], q)
  else if isL q.2 mOpen = true then (frun k .all (q.1, q.2.tail)).then_ fun t q => some (t, fMust mClose q)
  else if (peekL q.2).f0 = 1 then some (tm 2 (peekL q.2).f1 [], (q.1, q.2.tail))
  else some (⟨1, noName, (peekL q.2).f2, []⟩, (q.1, q.2.tail))
 | k + 1, .apps t, q => if q.1 = false ∧ beginsL q.2 = true then (frun k .part q).then_ fun u q => frun k (.apps (tm 4 noName [t, u])) q else some (t, q)
 | k + 1, .parts, q => (frun k .part q).then_ fun t q => frun k (.apps t) q
 | k + 1, .plain, q => (frun k .parts q).then_ fun t q =>
  if isL q.2 mSet = true then (frun k .one (q.1, q.2.tail)).then_ fun u q => some (tm 11 noName [t, u], q)
  else match opWords.find? (isL q.2) with
   | some o => (frun k .parts (q.1, q.2.tail)).then_ fun u q => some (tm 12 o [t, u], q)
   | none => some (t, q)
 | k + 1, .one, q =>
  if q.1 = true then some (zTm, q)
  else if isL q.2 kFun = true then (frun k .all (fMust mArrow (fName (q.1, q.2.tail)).2)).then_ fun x r => some (tm 3 (fName (q.1, q.2.tail)).1 [x], r)
  else if isL q.2 kLet = true then (frun k .all (fMust mEq (fName (q.1, q.2.tail)).2)).then_ fun x r => (frun k .all (fMust kIn r)).then_ fun y r => some (tm 5 (fName (q.1, q.2.tail)).1 [x, y], r)
  else if isL q.2 kIf = true then (frun k .all (q.1, q.2.tail)).then_ fun c r => (frun k .all (fMust kThen r)).then_ fun x r => (frun k .all (fMust kElse r)).then_ fun y r => some (tm 6 noName [c, x, y], r)
  else if isL q.2 kWhile = true then (frun k .all (q.1, q.2.tail)).then_ fun c r => (frun k .all (fMust kDo r)).then_ fun x r => some (tm 7 noName [c, x], r)
  else if isL q.2 kRaise = true then (frun k .one (q.1, q.2.tail)).then_ fun x r => some (tm 8 noName [x], r)
  else if isL q.2 kTry = true then (frun k .all (q.1, q.2.tail)).then_ fun x r => (frun k .all (fMust mArrow (fName (fMust kWith r)).2)).then_ fun y r2 => some (tm 9 (fName (fMust kWith r)).1 [x, y], r2)
  else frun k .plain q
 | k + 1, .all, q => (frun k .one q).then_ fun t q => if q.1 = false ∧ isL q.2 mSeq = true then (frun k .all (q.1, q.2.tail)).then_ fun u q => some (tm 13 noName [t, u], q) else some (t, q)
def FBad (x : FR) : Prop := ∃ t s, x = some (t, (true, s))
def FRel (x : FR) (r : Option (Tm × List TokT)) : Prop := match r with
 | some (t, s) => x = some (t, (false, s))
 | none => FBad x
theorem FBad.ret (t : Tm) (s : List TokT) : FBad (some (t, (true, s))) := ⟨t, s, rfl⟩
theorem FBad.then_ {x : FR} {f : Tm → FS → FR} (h : FBad x) (hf : ∀ t s, FBad (f t (true, s))) : FBad (x.then_ f) := by
 obtain ⟨t, s, rfl⟩ := h
 exact hf t s
theorem must_bad (m : ByteArray) (s : List TokT) : ∃ s', fMust m (true, s) = (true, s') := by
 unfold fMust; split <;> exact ⟨_, rfl⟩
theorem name_bad (s : List TokT) : ∃ s', (fName (true, s)).2 = (true, s') := by
 unfold fName; split <;> exact ⟨_, rfl⟩
theorem frun_bad : ∀ k m s, 3 ≤ k → FBad (frun k m (true, s)) := by
 intro k m s hk
 obtain ⟨k, rfl⟩ : ∃ j, k = j + 3 := ⟨k - 3, by omega⟩
 have part_ : ∀ j s, FBad (frun (j + 1) .part (true, s)) := fun j s => ⟨zTm, s, by simp [frun]⟩
 have apps_ : ∀ j t s, FBad (frun (j + 1) (.apps t) (true, s)) := fun j t s => ⟨t, s, by simp [frun]⟩
 have parts_ : ∀ j s, FBad (frun (j + 2) .parts (true, s)) := fun j s => (part_ j s).then_ fun t s => apps_ j t s
 have one_ : ∀ j s, FBad (frun (j + 1) .one (true, s)) := fun j s => ⟨zTm, s, by simp [frun]⟩
 cases m with
 | part => exact part_ _ _
 | apps t => exact apps_ _ _ _
 | parts => exact parts_ _ _
 | plain =>
  refine (parts_ k s).then_ fun t s => ?_
  show FBad (if isL s mSet = true then _ else _)
  split
  ·exact (one_ _ _).then_ fun u s => FBad.ret _ _
  ·cases opWords.find? (isL s) with
   | none => exact FBad.ret _ _
   | some o => exact (parts_ k _).then_ fun u s => FBad.ret _ _
 | one => exact one_ _ _
 | all =>
  refine (one_ _ s).then_ fun t s => ?_
  show FBad (if true = false ∧ _ then _ else _)
  rw [if_neg (by simp)]
  exact FBad.ret _ _
theorem FRel.then_ {x : FR} {a : PR} {g : Tm → List TokT → PR} {f : Tm → FS → FR} {res : Option (Tm × List TokT)} (h : a.then_ g = some res) (hx : ∀ r, a = some r → FRel x r) (hg : ∀ t s, g t s = some res → FRel (f t (false, s)) res) (hb : ∀ t s, FBad (f t (true, s))) : FRel (x.then_ f) res := by
 cases a with
 | none => cases h
 | some r =>
  have hx := hx r rfl
  cases r with
  | none =>
   injection h with h
   subst h
   exact FBad.then_ hx hb
  | some p =>
   obtain ⟨t, s⟩ := p
   have hx : x = some (t, (false, s)) := hx
   subst hx
   exact hg t s h
theorem FRel.bad {x : FR} {r : Option (Tm × List TokT)} (h : (some none : PR) = some r) (hb : FBad x) : FRel x r := by
 injection h with h
 subst h
 exact hb
theorem FRel.ret {t : Tm} {s : List TokT} {r : Option (Tm × List TokT)} (h : PR.ret t s = some r) : FRel (some (t, (false, s))) r := by
 injection h with h
 subst h
 rfl
theorem FRel.key {x : FR} {a : PR} {m : ByteArray} {g : Tm → List TokT → PR} {f : Tm → FS → FR} {res : Option (Tm × List TokT)} (h : a.key m g = some res) (hx : ∀ r, a = some r → FRel x r) (hg : ∀ t s, g t s = some res → FRel (f t (false, s)) res) (hb : ∀ t s, FBad (f t (true, s))) : FRel (x.then_ fun t q => f t (fMust m q)) res := by
 refine FRel.then_ h hx (fun t s h => ?_) (fun t s => ?_)
 ·cases hm : isL s m with
  | true =>
   rw [hm, if_pos rfl] at h
   have e : fMust m (false, s) = (false, s.tail) := by unfold fMust; rw [show isL (false, s).2 m = true from hm, if_pos rfl]
   simp only [e]
   exact hg _ _ h
  | false =>
   rw [hm, if_neg (by simp)] at h
   have e : fMust m (false, s) = (true, s) := by unfold fMust; rw [show isL (false, s).2 m = false from hm, if_neg (by simp)]
   simp only [e]
   exact FRel.bad h (hb _ _)
 ·obtain ⟨s', e⟩ := must_bad m s
  simp only [e]
  exact hb _ _
theorem FRel.name {m : ByteArray} {s : List TokT} {g : ByteArray → List TokT → PR} {f : ByteArray → FS → FR} {res : Option (Tm × List TokT)} (h : PR.name (boundL s m) g = some res) (hg : ∀ n s, g n s = some res → FRel (f n (false, s)) res) (hb : ∀ n s, FBad (f n (true, s))) : FRel (f (fName (false, s)).1 (fMust m (fName (false, s)).2)) res := by
 unfold boundL at h
 by_cases h1 : (peekL s).f0 = 1
 ·rw [if_pos h1] at h
  have e : fName (false, s) = ((peekL s).f1, (false, s.tail)) := by unfold fName; rw [if_pos (by exact h1)]
  rw [e]
  cases hm : isL s.tail m with
  | true =>
   rw [hm, if_pos rfl] at h
   have e2 : fMust m (false, s.tail) = (false, s.tail.tail) := by unfold fMust; rw [show isL (false, s.tail).2 m = true from hm, if_pos rfl]
   simp only [e2]
   exact hg _ _ h
  | false =>
   rw [hm, if_neg (by simp)] at h
   have e2 : fMust m (false, s.tail) = (true, s.tail) := by unfold fMust; rw [show isL (false, s.tail).2 m = false from hm, if_neg (by simp)]
   simp only [e2]
   exact FRel.bad h (hb _ _)
 ·rw [if_neg h1] at h
  have e : fName (false, s) = (noName, (true, s)) := by unfold fName; rw [if_neg (by exact h1)]
  rw [e]
  obtain ⟨s', e2⟩ := must_bad m s
  simp only [e2]
  exact FRel.bad h (hb _ _)
theorem FRel.ite {c : Prop} [Decidable c] {a b : PR} {x y : FR} {res : Option (Tm × List TokT)} (h : (if c then a else b) = some res) (h1 : a = some res → FRel x res) (h2 : b = some res → FRel y res) : FRel (if c then x else y) res := by
 by_cases hc : c
 ·rw [if_pos hc] at h ⊢; exact h1 h
 ·rw [if_neg hc] at h ⊢; exact h2 h
theorem FRel.ite' {c : Prop} [Decidable c] {a b : PR} {x y : FR} {res : Option (Tm × List TokT)} (h : (if c then a else b) = some res) (h1 : c → a = some res → FRel x res) (h2 : ¬ c → b = some res → FRel y res) : FRel (if c then x else y) res := by
 by_cases hc : c
 ·rw [if_pos hc] at h ⊢; exact h1 hc h
 ·rw [if_neg hc] at h ⊢; exact h2 hc h
theorem FRel.and {c : Prop} [Decidable c] {a b : PR} {x y : FR} {res : Option (Tm × List TokT)} (h : (if c then a else b) = some res) (h1 : a = some res → FRel x res) (h2 : b = some res → FRel y res) : FRel (if false = false ∧ c then x else y) res := by
 by_cases hc : c
 ·rw [if_pos hc] at h; rw [if_pos ⟨rfl, hc⟩]; exact h1 h
 ·rw [if_neg hc] at h; rw [if_neg (fun q => hc q.2)]; exact h2 h
theorem frun_run : ∀ k m s res, run k m s = some res → ∀ j, k + 3 ≤ j → FRel (frun j m (false, s)) res
 | 0, _, _, _, h => by cases h
 | k + 1, m, s, res, h => by
  intro j hj
  obtain ⟨j, rfl⟩ : ∃ i, j = i + 1 := ⟨j - 1, by omega⟩
  have hjk : k + 3 ≤ j := by omega
  have ih : ∀ m s r, run k m s = some r → FRel (frun j m (false, s)) r := fun m s r h => frun_run k m s r h j hjk
  have bad : ∀ m s, FBad (frun j m (true, s)) := fun m s => frun_bad j m s (by omega)
  have badm : ∀ md m s, FBad (frun j md (fMust m (true, s))) := fun md m s => by
   obtain ⟨s', e⟩ := must_bad m s
   rw [e]; exact bad _ _
  cases m with
  | part =>
   have hf : (false = true ∨ beginsL s = false) = (beginsL s = false) := by simp
   cases hb : beginsL s with
   | false =>
    have h0 : isL s mGet = false ∧ isL s mOpen = false ∧ (peekL s).f0 ≠ 1 ∧ (peekL s).f0 ≠ 2 := by
     unfold beginsL at hb
     simp only [Bool.or_eq_false_iff, decide_eq_false_iff_not] at hb
     exact ⟨hb.2.2.2, hb.2.2.1, hb.1, hb.2.1⟩
    have e : run (k + 1) .part s = some none := by
     simp only [run, h0.1, h0.2.1, if_neg h0.2.2.1, if_neg h0.2.2.2]; rfl
    rw [e] at h
    exact FRel.bad h ⟨zTm, s, by simp only [frun]; rw [if_pos (.inr hb)]⟩
   | true =>
    have e : frun (j + 1) .part (false, s) = if isL s mGet = true then (frun j .part (false, s.tail)).then_ fun t q => some (tm 10 noName [t], q)
      else if isL s mOpen = true then (frun j .all (false, s.tail)).then_ fun t q => some (t, fMust mClose q)
      else if (peekL s).f0 = 1 then some (tm 2 (peekL s).f1 [], (false, s.tail))
      else some (⟨1, noName, (peekL s).f2, []⟩, (false, s.tail)) := by
     show (if _ then _ else _) = _
     rw [if_neg (by simp [hb])]
    rw [e]
    refine FRel.ite' h (fun _ h => FRel.then_ h (ih _ _) (fun _ _ => FRel.ret) fun _ _ => FBad.ret _ _) fun n1 h => FRel.ite' h (fun _ h => ?_) fun n2 h => FRel.ite' h (fun _ h => FRel.ret h) fun n3 h => ?_
    ·exact FRel.key (f := fun t q => some (t, q)) h (ih _ _) (fun _ _ => FRel.ret) fun _ _ => FBad.ret _ _
    ·by_cases h2 : (peekL s).f0 = 2
     ·rw [if_pos h2] at h; exact FRel.ret h
     ·rw [if_neg h2] at h
      unfold beginsL at hb
      rw [decide_eq_false n3, decide_eq_false h2, show isL s ⟨#[33]⟩ = false from Bool.eq_false_iff.2 n1, show isL s ⟨#[40]⟩ = false from Bool.eq_false_iff.2 n2] at hb
      cases hb
  | apps t => exact FRel.and h (fun h => FRel.then_ h (ih _ _) (fun _ _ => ih _ _ _) fun _ _ => bad _ _) FRel.ret
  | parts => exact FRel.then_ h (ih _ _) (fun _ _ => ih _ _ _) fun _ _ => bad _ _
  | plain =>
   refine FRel.then_ h (ih _ _) (fun t s h => ?_) fun t s => ?_
   ·refine FRel.ite h (fun h => FRel.then_ h (ih _ _) (fun _ _ => FRel.ret) fun _ _ => FBad.ret _ _) fun h => ?_
    show FRel (match opWords.find? (isL s) with | some o => _ | none => _) res
    cases hf : opWords.find? (isL s) with
    | none => rw [hf] at h; exact FRel.ret h
    | some o => rw [hf] at h; exact FRel.then_ h (ih _ _) (fun _ _ => FRel.ret) fun _ _ => FBad.ret _ _
   ·show FBad (if isL s mSet = true then _ else _)
    split
    ·exact (bad _ _).then_ fun u s => FBad.ret _ _
    ·cases opWords.find? (isL s) with
     | none => exact FBad.ret _ _
     | some o => exact (bad _ _).then_ fun u s => FBad.ret _ _
  | one =>
   have e0 : frun (j + 1) .one (false, s) = (if isL s kFun = true then (frun j .all (fMust mArrow (fName (false, s.tail)).2)).then_ fun x r => some (tm 3 (fName (false, s.tail)).1 [x], r)
  else if isL s kLet = true then (frun j .all (fMust mEq (fName (false, s.tail)).2)).then_ fun x r => (frun j .all (fMust kIn r)).then_ fun y r => some (tm 5 (fName (false, s.tail)).1 [x, y], r)
  else if isL s kIf = true then (frun j .all (false, s.tail)).then_ fun c r => (frun j .all (fMust kThen r)).then_ fun x r => (frun j .all (fMust kElse r)).then_ fun y r => some (tm 6 noName [c, x, y], r)
  else if isL s kWhile = true then (frun j .all (false, s.tail)).then_ fun c r => (frun j .all (fMust kDo r)).then_ fun x r => some (tm 7 noName [c, x], r)
  else if isL s kRaise = true then (frun j .one (false, s.tail)).then_ fun x r => some (tm 8 noName [x], r)
  else if isL s kTry = true then (frun j .all (false, s.tail)).then_ fun x r => (frun j .all (fMust mArrow (fName (fMust kWith r)).2)).then_ fun y r2 => some (tm 9 (fName (fMust kWith r)).1 [x, y], r2)
  else frun j .plain (false, s)) := rfl
   rw [e0]
   refine FRel.ite h (fun h => ?_) fun h => FRel.ite h (fun h => ?_) fun h => FRel.ite h (fun h => ?_) fun h => FRel.ite h (fun h => ?_) fun h => FRel.ite h (fun h => ?_) fun h => FRel.ite h (fun h => ?_) fun h => ih _ _ _ h
   ·exact FRel.name (f := fun n q => (frun j .all q).then_ fun x r => some (tm 3 n [x], r)) h (fun n s h => FRel.then_ h (ih _ _) (fun _ _ => FRel.ret) fun _ _ => FBad.ret _ _) fun n s => (bad _ _).then_ fun _ _ => FBad.ret _ _
   ·exact FRel.name (f := fun n q => (frun j .all q).then_ fun x r => (frun j .all (fMust kIn r)).then_ fun y r => some (tm 5 n [x, y], r)) h
     (fun n s h => FRel.key (f := fun x r => (frun j .all r).then_ fun y r => some (tm 5 n [x, y], r)) h (ih _ _) (fun x s h => FRel.then_ h (ih _ _) (fun _ _ => FRel.ret) fun _ _ => FBad.ret _ _) fun x s => (bad _ _).then_ fun _ _ => FBad.ret _ _)
     fun n s => (bad _ _).then_ fun x s => (badm _ _ _).then_ fun _ _ => FBad.ret _ _
   ·exact FRel.key (f := fun c r => (frun j .all r).then_ fun x r => (frun j .all (fMust kElse r)).then_ fun y r => some (tm 6 noName [c, x, y], r)) h (ih _ _)
     (fun c s h => FRel.key (f := fun x r => (frun j .all r).then_ fun y r => some (tm 6 noName [c, x, y], r)) h (ih _ _) (fun x s h => FRel.then_ h (ih _ _) (fun _ _ => FRel.ret) fun _ _ => FBad.ret _ _) fun x s => (bad _ _).then_ fun _ _ => FBad.ret _ _)
     fun c s => (bad _ _).then_ fun x s => (badm _ _ _).then_ fun _ _ => FBad.ret _ _
   ·exact FRel.key (f := fun c r => (frun j .all r).then_ fun x r => some (tm 7 noName [c, x], r)) h (ih _ _) (fun x s h => FRel.then_ h (ih _ _) (fun _ _ => FRel.ret) fun _ _ => FBad.ret _ _) fun x s => (bad _ _).then_ fun _ _ => FBad.ret _ _
   ·exact FRel.then_ h (ih _ _) (fun _ _ => FRel.ret) fun _ _ => FBad.ret _ _
   ·exact FRel.key (f := fun x r => (frun j .all (fMust mArrow (fName r).2)).then_ fun y r2 => some (tm 9 (fName r).1 [x, y], r2)) h (ih _ _)
     (fun x s h => FRel.name (f := fun n q => (frun j .all q).then_ fun y r => some (tm 9 n [x, y], r)) h (fun n s h => FRel.then_ h (ih _ _) (fun _ _ => FRel.ret) fun _ _ => FBad.ret _ _) fun n s => (bad _ _).then_ fun _ _ => FBad.ret _ _)
     fun x s => by
      obtain ⟨s', e⟩ := name_bad s
      simp only [e]
      exact (badm _ _ _).then_ fun _ _ => FBad.ret _ _
  | all =>
   refine FRel.then_ h (ih _ _) (fun t s h => ?_) fun t s => ?_
   ·exact FRel.and h (fun h => FRel.then_ h (ih _ _) (fun _ _ => FRel.ret) fun _ _ => FBad.ret _ _) FRel.ret
   ·show FBad (if true = false ∧ _ then _ else _)
    rw [if_neg (by simp)]
    exact FBad.ret _ _
theorem FR.then_mono {a a' : FR} {f f' : Tm → FS → FR} (h : ∀ r, a = some r → a' = some r) (hf : ∀ t q r, f t q = some r → f' t q = some r) : ∀ r, a.then_ f = some r → a'.then_ f' = some r := by
 intro r hr
 cases a with
 | none => cases hr
 | some x =>
  rw [h x rfl]
  exact hf _ _ _ hr
theorem FR.ite_mono {c : Prop} [Decidable c] {a a' b b' : FR} (h : ∀ r, a = some r → a' = some r) (k : ∀ r, b = some r → b' = some r) : ∀ r, (if c then a else b) = some r → (if c then a' else b') = some r := by
 intro r hr
 split
 ·rename_i hc; rw [if_pos hc] at hr; exact h r hr
 ·rename_i hc; rw [if_neg hc] at hr; exact k r hr
theorem frun_mono : ∀ k m q r, frun k m q = some r → frun (k + 1) m q = some r
 | 0, _, _, _, h => by cases h
 | k + 1, m, q, r, h => by
  have ih := frun_mono k
  have same : ∀ (a : FR), ∀ r, a = some r → a = some r := fun _ _ h => h
  revert r
  cases m with
  | part => exact FR.ite_mono (same _) (FR.ite_mono (FR.then_mono (ih _ _) fun _ _ => same _) (FR.ite_mono (FR.then_mono (ih _ _) fun _ _ => same _) (same _)))
  | apps t => exact FR.ite_mono (FR.then_mono (ih _ _) fun _ _ => ih _ _) (same _)
  | parts => exact FR.then_mono (ih _ _) fun _ _ => ih _ _
  | plain =>
   refine FR.then_mono (ih _ _) fun t q => FR.ite_mono (FR.then_mono (ih _ _) fun _ _ => same _) ?_
   cases opWords.find? (isL q.2) with
   | none => exact same _
   | some o => exact FR.then_mono (ih _ _) fun _ _ => same _
  | one =>
   exact FR.ite_mono (same _) (FR.ite_mono (FR.then_mono (ih _ _) fun _ _ => same _) (FR.ite_mono (FR.then_mono (ih _ _) fun _ _ => FR.then_mono (ih _ _) fun _ _ => same _)
    (FR.ite_mono (FR.then_mono (ih _ _) fun _ _ => FR.then_mono (ih _ _) fun _ _ => FR.then_mono (ih _ _) fun _ _ => same _)
    (FR.ite_mono (FR.then_mono (ih _ _) fun _ _ => FR.then_mono (ih _ _) fun _ _ => same _)
    (FR.ite_mono (FR.then_mono (ih _ _) fun _ _ => same _)
    (FR.ite_mono (FR.then_mono (ih _ _) fun _ _ => FR.then_mono (ih _ _) fun _ _ => same _) (ih _ _)))))))
  | all => exact FR.then_mono (ih _ _) fun _ _ => FR.ite_mono (FR.then_mono (ih _ _) fun _ _ => same _) (same _)
theorem frun_le {k k' m q r} (h : frun k m q = some r) (hk : k ≤ k') : frun k' m q = some r := by
 induction hk with
 | refl => exact h
 | step _ ih => exact frun_mono _ _ _ _ ih
end Go.Proofs.YtchekgnacodolaaGreatDoor.X
end

-- Joined by our own program (wip/tools/prune.py) out of the seat's texts, less what this claim doesn't name.
import Derived.OpenShut
import Derived.Test.YtchekgnacodolaaGreatDoorJ16
import Derived.Test.YtchekgnacodolaaGreatDoorJ20
import Derived.Test.YtchekgnacodolaaGreatDoorJ23
section
namespace Go.Proofs.YtchekgnacodolaaGreatDoor.X
open Go.RowKit Go.Proofs.YtchekgnacodolaaGreatDoorW.PrintWords Go.Proofs.YtchekgnacodolaaGreatDoorW.PrintLast Go.Proofs.YtchekgnacodolaaGreatDoorW.PrintMore
set_option linter.unusedSimpArgs false
set_option linter.unusedVariables false
structure GP (w : World) : Prop where
  g : GL w
  t : GT w
theorem GP.below {w w1 : World} (h : GP w) (hb : Below w.heap.size w w1) : GP w1 := ⟨h.g.below hb, h.t.below hb⟩
def RdB (w : World) (A : Option Addr) (l : List UInt8) : Prop := ∀ (j : Nat) b, l[j]? = some b → ∃ ad, A = some ad ∧ w.cell? (ad.add j) = some (.int .u8 (b.toNat : Int))
theorem RdB.below {w w1 : World} {A : Option Addr} {l : List UInt8} (h : RdB w A l) (hb : Below w.heap.size w w1) : RdB w1 A l := fun j b hj => by
  obtain ⟨ad, e, hc⟩ := h j b hj
  exact ⟨ad, e, pw_cell_below hb hc⟩
theorem bytes_of {w : World} {A : Option Addr} {l : List Int} (hr : Kd.C (Kd.int .u8) w A l.length l) (hw : ∀ x ∈ l, (Lit.int .u8 x).wf = true) : ∃ bs : List UInt8, bs.length = l.length ∧ RdB w A bs := by
  refine ⟨l.map fun x => UInt8.ofNat x.toNat, by simp, fun j b hj => ?_⟩
  rw [List.getElem?_map, Option.map_eq_some_iff] at hj
  obtain ⟨x, hx, rfl⟩ := hj
  obtain ⟨hlt, rfl⟩ := List.getElem?_eq_some_iff.1 hx
  have hb := Go.bounds_u8 (hw l[j] (List.getElem_mem hlt))
  obtain ⟨ad, e, hc⟩ := Kd.at_int hr (j : Int) (by omega) (by omega)
  refine ⟨ad, e, ?_⟩
  rw [Int.toNat_natCast] at hc
  rw [hc]
  have e1 : rd l (j : Int) = l[j] := by unfold rd; simp [List.getD_eq_getElem?_getD, List.getElem?_eq_getElem hlt]
  rw [e1, UInt8.toNat_ofNat_of_lt' (by show l[j].toNat < 256; omega)]
  congr 3; omega
theorem word_small {nm : ByteArray} (h : wordB nm = true) : nm.size ≤ 16 := right_size (right_name h)
theorem names1 (k : Int) (nm : ByteArray) (a : Tm) (hn : nm.size ≤ 16) (ha : namesT a = true) : namesT (tm k nm [a]) = true := by
  simp only [tm, namesT, namessT, ha, Bool.and_true, Bool.true_and, decide_eq_true_eq]; omega
theorem names2 (k : Int) (nm : ByteArray) (a b : Tm) (hn : nm.size ≤ 16) (ha : namesT a = true) (hb : namesT b = true) : namesT (tm k nm [a, b]) = true := by
  simp only [tm, namesT, namessT, ha, hb, Bool.and_true, Bool.true_and, decide_eq_true_eq]; omega
theorem names3 (k : Int) (nm : ByteArray) (a b c : Tm) (hn : nm.size ≤ 16) (ha : namesT a = true) (hb : namesT b = true) (hc : namesT c = true) : namesT (tm k nm [a, b, c]) = true := by
  simp only [tm, namesT, namessT, ha, hb, hc, Bool.and_true, Bool.true_and, decide_eq_true_eq]; omega
theorem names_nodes (t : Tm) (h : nodesT t = true) : namesT t = true := by
  have z : noName.size ≤ 16 := by decide
  refine shown_ind (P := fun t => namesT t = true) ?_ ?_ ?_ ?_ ?_ ?_ ?_ ?_ ?_ ?_ ?_ ?_ ?_ t h
  · intro n _ _; simp only [namesT, namessT, Bool.and_true, decide_eq_true_eq]; omega
  · intro nm hn; have := word_small hn; simp only [tm, namesT, namessT, Bool.and_true, decide_eq_true_eq]; omega
  · intro nm a hn _ pa; exact names1 3 nm a (word_small hn) pa
  · intro a b _ _ pa pb; exact names2 4 noName a b z pa pb
  · intro nm a b hn _ _ pa pb; exact names2 5 nm a b (word_small hn) pa pb
  · intro a b c _ _ _ pa pb pc; exact names3 6 noName a b c z pa pb pc
  · intro a b _ _ pa pb; exact names2 7 noName a b z pa pb
  · intro a _ pa; exact names1 8 noName a z pa
  · intro nm a b hn _ _ pa pb; exact names2 9 nm a b (word_small hn) pa pb
  · intro a _ pa; exact names1 10 noName a z pa
  · intro a b _ _ pa pb; exact names2 11 noName a b z pa pb
  · intro nm a b hn _ _ pa pb; exact names2 12 nm a b (by have := op_size hn; omega) pa pb
  · intro a b _ _ pa pb; exact names2 13 noName a b z pa pb
theorem showR (t : Tm) (hr : rightTm t = true) (vt : Value) (w : World) (h : TmR w t vt) (hG : GP w) :
    Calls Tryz.prog 29 #[vt] w fun e w' => e = .returned (.string (B (printL (toksT t)))) ∧ Below w.heap.size w w' := by
  obtain ⟨h1, h2, h3⟩ := right_nodes hr
  have := showC t vt w h (names_nodes t h1) (by omega) hG.g hG.t
  unfold showS at this
  rwa [if_pos hr] at this
theorem showToksR (t : Tm) (hr : rightTm t = true) (vt : Value) (w : World) (h : TmR w t vt) (hG : GP w) :
    Calls Tryz.prog 35 #[vt] w fun e w' => ∃ A c, e = .returned (.slice A (toksT t).length c) ∧ Reads w' A c (toksT t) ∧ Below w.heap.size w w' := by
  obtain ⟨h1, h2, h3⟩ := right_nodes hr
  refine (showToksC t vt w h (names_nodes t h1) (by omega) hG.g hG.t).mono ?_
  unfold toksS
  rw [if_pos hr]
  rintro e w' ⟨v, rfl, ho, hb⟩
  obtain ⟨A, c, rfl⟩ := Kd.R_slice ho
  exact ⟨A, c, rfl, ⟨(Kd.R_reads' ho).2.2, (Kd.R_reads' ho).2.1⟩, hb⟩
theorem rightR (t : Tm) (hr : rightTm t = true) (vt : Value) (w : World) (h : TmR w t vt) (hG : GP w) :
    Calls Tryz.prog 30 #[vt] w fun e w' => e = .returned (.bool true) ∧ Below w.heap.size w w' := by
  obtain ⟨h1, h2, h3⟩ := right_nodes hr
  have := termRightC t vt w h (names_nodes t h1) (by omega) hG.g hG.t
  rwa [hr] at this
abbrev tmA (t : Tm) (A : Option Addr) (c : Nat) : Array Value := #[.int .i64 t.f0, .string t.f1, .int .i64 t.f2, .slice A t.f3.length c]
theorem parseS (s : List UInt8) (hl : s.length ≤ 9223372036854775807) (t : Tm) (n : Int) (h : parseR s = (t, n)) (w : World) (hG : GP w) :
    Calls Tryz.prog 22 #[.string (B s)] w fun e w' => ∃ A c, e = .returned (.tuple #[.agg (tmA t A c), .int .i64 n]) ∧ TmR w' t (.agg (tmA t A c)) ∧ Below w.heap.size w w' := by
  refine (parseC s hl w hG.g).mono ?_
  rw [h]
  rintro e w' ⟨v, rfl, hv, hb⟩
  obtain ⟨A, c, rfl, hl, hC⟩ := hv.R
  exact ⟨A, c, rfl, ⟨A, c, rfl, hl, hC⟩, hb⟩
theorem toksS_ (l : List TokT) (A : Option Addr) (c : Nat) (hl : l.length ≤ 1099511627776) (hs : ∀ t ∈ l, t.f1.size ≤ 281474976710656) (t : Tm) (n : Int) (h : toksR l = (t, n)) (w : World) (hG : GP w) (hr : Reads w A c l) :
    Calls Tryz.prog 19 #[.slice A l.length c] w fun e w' => ∃ A c, e = .returned (.tuple #[.agg (tmA t A c), .int .i64 n]) ∧ TmR w' t (.agg (tmA t A c)) ∧ Below w.heap.size w w' := by
  refine (toksC l A c hl hs w hG.g hr).mono ?_
  rw [h]
  rintro e w' ⟨v, rfl, hv, hb⟩
  obtain ⟨A, c, rfl, hl, hC⟩ := hv.R
  exact ⟨A, c, rfl, ⟨A, c, rfl, hl, hC⟩, hb⟩
theorem madeS (A : Option Addr) (c : Nat) (l : List UInt8) (t : Tm) (ht : madeT l = t) (w : World) (hr : RdB w A l) (hc : l.length ≤ c) (hl : l.length ≤ 9223372036854775807) :
    Calls Tryz.prog 31 #[.slice A l.length c] w fun e w' => ∃ A c, e = .returned (.agg (tmA t A c)) ∧ TmR w' t (.agg (tmA t A c)) ∧ Below w.heap.size w w' := by
  subst ht
  refine (madeC A c l w hr hc hl).mono ?_
  rintro e w' ⟨v, rfl, hv, hb⟩
  obtain ⟨A, c, rfl, hl, hC⟩ := hv.R
  exact ⟨A, c, rfl, ⟨A, c, rfl, hl, hC⟩, hb⟩
theorem sameS (t : Tm) (vt vu : Value) (w : World) (h : TmR w t vt) (h' : TmR w t vu) : Calls Tryz.prog 27 #[vt, vu] w fun e w' => e = .returned (.bool true) ∧ Below w.heap.size w w' := by
  have := sameC t t vt vu w h h'
  rwa [sameTm_self] at this
theorem back_parse {t : Tm} (h : Small 6 t) : parseR (printL (toksT t)) = (t, 0) := by
  have := parens_ok h 0 (by omega)
  rwa [parens] at this
theorem small_right {t : Tm} (h : Small 6 t) : rightTm t = true := h.right (by decide) (by decide)
theorem print_len {t : Tm} (h : rightTm t = true) : (printL (toksT t)).length ≤ 1020000 := (show_right h).2.2
theorem toks_small {t : Tm} (h : rightTm t = true) : (toksT t).length ≤ 60000 ∧ ∀ x ∈ toksT t, x.f1.size ≤ 281474976710656 :=
  ⟨(show_right h).2.1, fun x hx => Nat.le_trans (right_size (List.all_eq_true.1 (toks_right t (right_nodes h).1) x hx)) (by decide)⟩
end Go.Proofs.YtchekgnacodolaaGreatDoor.X
end

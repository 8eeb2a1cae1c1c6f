-- Joined by our own program (wip/tools/prune.py) out of the seat's texts, less what this claim doesn't name.
import Derived.Deep.RegionHeld3
import Derived.Test.YtchekgnacodolaaDoorJ8
import Derived.Test.YtchekgnacodolaaDoorJ16
import Derived.Test.YtchekgnacodolaaDoorJ17
import Derived.Test.YtchekgnacodolaaDoorJ18
section
namespace Go.Proofs.YtchekgnacodolaaDoor.X
open Go.RowKit Go.Proofs.YtchekgnacodolaaDoorW.PrintWords Go.Proofs.YtchekgnacodolaaDoorW.PrintLast Go.Proofs.YtchekgnacodolaaDoorW.PrintMore
set_option linter.unusedSimpArgs false
set_option linter.unusedVariables false
theorem toks_in_len (t : Tm) : (toksT t).length ≤ (inT t).length := by
  unfold inT withinT
  split
  · omega
  · rw [List.length_append, List.length_cons, List.length_singleton]; omega
theorem in_len (t : Tm) : (inT t).length ≤ (toksT t).length + 2 := by
  unfold inT withinT
  split
  · omega
  · rw [List.length_append, List.length_cons, List.length_singleton]; omega
theorem lay1 (k : Int) (nm : ByteArray) (a : Tm) (h : k = 3 ∨ k = 8 ∨ k = 10) : (inT a).length ≤ (toksT (tm k nm [a])).length ∧ (toksT (tm k nm [a])).length ≤ (inT a).length + 4 := by
  rcases h with rfl | rfl | rfl <;> simp [toksT, withinsT, layT, tm, inT] <;> omega
theorem lay2 (k : Int) (nm : ByteArray) (a b : Tm) (h : k = 4 ∨ k = 5 ∨ k = 7 ∨ k = 9 ∨ k = 11 ∨ k = 12 ∨ k = 13) : (inT a).length + (inT b).length ≤ (toksT (tm k nm [a, b])).length ∧ (toksT (tm k nm [a, b])).length ≤ (inT a).length + (inT b).length + 4 := by
  rcases h with rfl | rfl | rfl | rfl | rfl | rfl | rfl <;> simp [toksT, withinsT, layT, tm, inT] <;> omega
theorem lay3 (nm : ByteArray) (a b c : Tm) : (inT a).length + (inT b).length + (inT c).length ≤ (toksT (tm 6 nm [a, b, c])).length ∧ (toksT (tm 6 nm [a, b, c])).length ≤ (inT a).length + (inT b).length + (inT c).length + 4 := by
  simp [toksT, withinsT, layT, tm, inT]; omega
theorem toks_len (t : Tm) (h : nodesT t = true) : (toksT t).length + 2 ≤ 6 * sizeT t := by
  have one : ∀ k nm a, (k = 3 ∨ k = 8 ∨ k = 10) → (toksT a).length + 2 ≤ 6 * sizeT a → (toksT (tm k nm [a])).length + 2 ≤ 6 * sizeT (tm k nm [a]) := fun k nm a hk ih => by
    have := (lay1 k nm a hk).2
    have := in_len a
    rw [size1]; omega
  have two : ∀ k nm a b, (k = 4 ∨ k = 5 ∨ k = 7 ∨ k = 9 ∨ k = 11 ∨ k = 12 ∨ k = 13) → (toksT a).length + 2 ≤ 6 * sizeT a → (toksT b).length + 2 ≤ 6 * sizeT b → (toksT (tm k nm [a, b])).length + 2 ≤ 6 * sizeT (tm k nm [a, b]) := fun k nm a b hk ih ih2 => by
    have := (lay2 k nm a b hk).2
    have := in_len a
    have := in_len b
    rw [size2]; omega
  refine shown_ind (P := fun t => (toksT t).length + 2 ≤ 6 * sizeT t) ?_ ?_ ?_ ?_ ?_ ?_ ?_ ?_ ?_ ?_ ?_ ?_ ?_ t h
  · intro n _ _; show 1 + 2 ≤ 6 * (1 + 0); omega
  · intro n _; show 1 + 2 ≤ 6 * (1 + 0); omega
  · intro nm a _ _ pa; exact one 3 nm a (by simp) pa
  · intro a b _ _ pa pb; exact two 4 noName a b (by simp) pa pb
  · intro nm a b _ _ _ pa pb; exact two 5 nm a b (by simp) pa pb
  · intro a b c _ _ _ pa pb pc
    have := (lay3 noName a b c).2
    have := in_len a
    have := in_len b
    have := in_len c
    rw [size3]; omega
  · intro a b _ _ pa pb; exact two 7 noName a b (by simp) pa pb
  · intro a _ pa; exact one 8 noName a (by simp) pa
  · intro nm a b _ _ _ pa pb; exact two 9 nm a b (by simp) pa pb
  · intro a _ pa; exact one 10 noName a (by simp) pa
  · intro a b _ _ pa pb; exact two 11 noName a b (by simp) pa pb
  · intro nm a b _ _ _ pa pb; exact two 12 nm a b (by simp) pa pb
  · intro a b _ _ pa pb; exact two 13 noName a b (by simp) pa pb
theorem show_toks (t : Tm) (h : nodesT t = true) : (toksT t).length ≤ 900000 → ToksH t := by
  have w1 : ∀ k nm a, (k = 3 ∨ k = 8 ∨ k = 10) → (toksT (tm k nm [a])).length ≤ 900000 → ((toksT a).length ≤ 900000 → ToksH a) → WithinH a := fun k nm a hk hl ih => by
    have := (lay1 k nm a hk).1
    have h2 := toks_in_len a
    exact withinC a (ih (by omega)) (by omega)
  have w2 : ∀ k nm a b, (k = 4 ∨ k = 5 ∨ k = 7 ∨ k = 9 ∨ k = 11 ∨ k = 12 ∨ k = 13) → (toksT (tm k nm [a, b])).length ≤ 900000 → ((toksT a).length ≤ 900000 → ToksH a) → ((toksT b).length ≤ 900000 → ToksH b) → WithinH a ∧ WithinH b := fun k nm a b hk hl ih ih2 => by
    have := (lay2 k nm a b hk).1
    have h2 := toks_in_len a
    have h3 := toks_in_len b
    exact ⟨withinC a (ih (by omega)) (by omega), withinC b (ih2 (by omega)) (by omega)⟩
  refine shown_ind (P := fun t => (toksT t).length ≤ 900000 → ToksH t) ?_ ?_ ?_ ?_ ?_ ?_ ?_ ?_ ?_ ?_ ?_ ?_ ?_ t h
  · intro n h0 h1 _; exact toks_num n h0 h1
  · intro nm _ hl; exact toks_var nm hl
  · intro nm a _ _ pa hl; exact toks_fun nm a (w1 3 nm a (by simp) hl pa) hl
  · intro a b _ _ pa pb hl; exact toks_app a b (w2 4 noName a b (by simp) hl pa pb).1 (w2 4 noName a b (by simp) hl pa pb).2 hl
  · intro nm a b _ _ _ pa pb hl; exact toks_let nm a b (w2 5 nm a b (by simp) hl pa pb).1 (w2 5 nm a b (by simp) hl pa pb).2 hl
  · intro a b c _ _ _ pa pb pc hl
    have := (lay3 noName a b c).1
    have h2 := toks_in_len a
    have h3 := toks_in_len b
    have h4 := toks_in_len c
    exact toks_if a b c (withinC a (pa (by omega)) (by omega)) (withinC b (pb (by omega)) (by omega)) (withinC c (pc (by omega)) (by omega)) hl
  · intro a b _ _ pa pb hl; exact toks_while a b (w2 7 noName a b (by simp) hl pa pb).1 (w2 7 noName a b (by simp) hl pa pb).2 hl
  · intro a _ pa hl; exact toks_raise a (w1 8 noName a (by simp) hl pa) hl
  · intro nm a b _ _ _ pa pb hl; exact toks_try nm a b (w2 9 nm a b (by simp) hl pa pb).1 (w2 9 nm a b (by simp) hl pa pb).2 hl
  · intro a _ pa hl; exact toks_get a (w1 10 noName a (by simp) hl pa) hl
  · intro a b _ _ pa pb hl; exact toks_set a b (w2 11 noName a b (by simp) hl pa pb).1 (w2 11 noName a b (by simp) hl pa pb).2 hl
  · intro nm a b hm _ _ pa pb hl; exact toks_op nm a b (w2 12 nm a b (by simp) hl pa pb).1 (w2 12 nm a b (by simp) hl pa pb).2 hl
  · intro a b _ _ pa pb hl; exact toks_seq a b (w2 13 noName a b (by simp) hl pa pb).1 (w2 13 noName a b (by simp) hl pa pb).2 hl
theorem right_nodes {t : Tm} (h : rightTm t = true) : nodesT t = true ∧ depthT t ≤ 200 ∧ sizeT t ≤ 10000 := by
  unfold rightTm at h
  simp only [Bool.and_eq_true, decide_eq_true_eq] at h
  exact ⟨h.2, h.1.1, h.1.2⟩
theorem show_right {t : Tm} (h : rightTm t = true) : ToksH t ∧ (toksT t).length ≤ 60000 ∧ (printL (toksT t)).length ≤ 1020000 := by
  obtain ⟨h1, h2, h3⟩ := right_nodes h
  have hl := toks_len t h1
  have hw := W_right (toks_right t h1)
  have hp := W_len (toksT t)
  exact ⟨show_toks t h1 (by omega), by omega, by omega⟩
def toksS (t : Tm) : List TokT := if rightTm t = true then toksT t else []
def showS (t : Tm) : List UInt8 := if rightTm t = true then printL (toksT t) else [63]
set_option maxRecDepth 100000 in
set_option maxHeartbeats 4000000 in
theorem showToksC (t : Tm) (vt : Value) (w : World) (h : TmR w t vt) (hn : namesT t = true) (hs : sizeT t ≤ 9223372036854775807) (hG : GL w) (hT : GT w) :
    Calls Tryd.prog 6 #[vt] w (ToksOut w (toksS t)) := by
  have hR := h
  obtain ⟨A, c, rfl, hl, hA⟩ := h
  obtain ⟨W0, hW0⟩ : ∃ W0, W0 = w.alloc (.cells #[.int .i64 t.f0, .string t.f1, .int .i64 t.f2, .slice A t.f3.length c] 26) := ⟨_, rfl⟩
  have hb0 : Below w.heap.size w W0 := by rw [hW0]; exact below_alloc (Below.refl _ _) _
  have B1 : Own W0 w.heap.size #[.int .i64 t.f0, .string t.f1, .int .i64 t.f2, .slice A t.f3.length c] 26 := by rw [hW0]; exact Own.new _ _ _
  have b0 := B1.cell 0
  have b1 := B1.cell 1
  have b2 := B1.cell 2
  have b3 := B1.cell 3
  have HG := Lib.hid (hG.below hb0)
  have HB := Lib.hid hb0
  have HO := Lib.hid B1
  have HR := Lib.hid (hR.below hb0)
  have KR := Lib.hid (termRightC t _ W0 (hR.below hb0) hn hs HG.out (hT.below hb0))
  have HS := Lib.hid (show_right (t := t))
  unfold toksS
  clear hG hT hA hb0 B1 hR hn hs hl
  cases hr : rightTm t with
  | false =>
    rw [hr] at KR
    clear hr
    go_enter Tryd.func6, Tryd.ntmps6
    go_wp2_with fail
    rw [← hW0]
    refine KR.out.mono ?_
    rintro e w2 ⟨rfl, hb⟩
    have HB2 := Lib.hid (HB.out.trans (hb.mono HB.out.size))
    clear hb
    go_wp2_with fail
    go_ret
    exact ⟨_, rfl, Kd.R_nil _ _ _ _ _, HB2.out⟩
  | true =>
    have KT := Lib.hid (HS.out hr).1
    rw [hr] at KR
    clear hr
    go_enter Tryd.func6, Tryd.ntmps6
    go_wp2_with fail
    rw [← hW0]
    refine KR.out.mono ?_
    rintro e w2 ⟨rfl, hb⟩
    have B1 : Own _ _ _ _ := blk_below HO.out hb
    have b0 := B1.cell 0
    have b1 := B1.cell 1
    have b2 := B1.cell 2
    have b3 := B1.cell 3
    have HB2 := Lib.hid (HB.out.trans (hb.mono HB.out.size))
    have KT := Lib.hid (KT.out _ w2 (HR.out.below hb) (HG.out.below hb))
    clear hb B1
    go_wp2_with fail
    refine KT.out.mono ?_
    rintro e w3 ⟨v, rfl, ho, hb⟩
    have HO3 := Lib.hid (Kd.R_lower ho HB2.out.size)
    have HB3 := Lib.hid (HB2.out.trans (hb.mono HB2.out.size))
    clear ho hb
    go_wp2_with fail
    go_ret
    exact ⟨_, rfl, HO3.out, HB3.out⟩
set_option maxRecDepth 100000 in
set_option maxHeartbeats 4000000 in
theorem showC (t : Tm) (vt : Value) (w : World) (h : TmR w t vt) (hn : namesT t = true) (hs : sizeT t ≤ 9223372036854775807) (hG : GL w) (hT : GT w) :
    Calls Tryd.prog 8 #[vt] w fun e w' => e = .returned (.string (B (showS t))) ∧ Below w.heap.size w w' := by
  have hR := h
  obtain ⟨A, c, rfl, hl, hA⟩ := h
  obtain ⟨W0, hW0⟩ : ∃ W0, W0 = w.alloc (.cells #[.int .i64 t.f0, .string t.f1, .int .i64 t.f2, .slice A t.f3.length c] 26) := ⟨_, rfl⟩
  have hb0 : Below w.heap.size w W0 := by rw [hW0]; exact below_alloc (Below.refl _ _) _
  have B1 : Own W0 w.heap.size #[.int .i64 t.f0, .string t.f1, .int .i64 t.f2, .slice A t.f3.length c] 26 := by rw [hW0]; exact Own.new _ _ _
  have b0 := B1.cell 0
  have b1 := B1.cell 1
  have b2 := B1.cell 2
  have b3 := B1.cell 3
  have HG := Lib.hid (hG.below hb0)
  have HB := Lib.hid hb0
  have HO := Lib.hid B1
  have HR := Lib.hid (hR.below hb0)
  have KR := Lib.hid (termRightC t _ W0 (hR.below hb0) hn hs HG.out (hT.below hb0))
  have HS := Lib.hid (show_right (t := t))
  unfold showS
  clear hG hT hA hb0 B1 hR hn hs hl
  cases hr : rightTm t with
  | false =>
    rw [hr] at KR
    clear hr
    go_enter Tryd.func8, Tryd.ntmps8
    go_wp2_with fail
    rw [← hW0]
    refine KR.out.mono ?_
    rintro e w2 ⟨rfl, hb⟩
    have HB2 := Lib.hid (HB.out.trans (hb.mono HB.out.size))
    clear hb
    go_wp2_with fail
    go_ret
    exact ⟨rfl, HB2.out⟩
  | true =>
    have KT := Lib.hid (HS.out hr).1
    have HL := Lib.hid (HS.out hr).2
    rw [hr] at KR
    clear hr
    go_enter Tryd.func8, Tryd.ntmps8
    go_wp2_with fail
    rw [← hW0]
    refine KR.out.mono ?_
    rintro e w2 ⟨rfl, hb⟩
    have B1 : Own _ _ _ _ := blk_below HO.out hb
    have b0 := B1.cell 0
    have b1 := B1.cell 1
    have b2 := B1.cell 2
    have b3 := B1.cell 3
    have HB2 := Lib.hid (HB.out.trans (hb.mono HB.out.size))
    have KT := Lib.hid (KT.out _ w2 (HR.out.below hb) (HG.out.below hb))
    clear hb B1
    go_wp2_with fail
    refine KT.out.mono ?_
    rintro e w3 ⟨v, rfl, ho, hb⟩
    obtain ⟨A3, c3, rfl⟩ := Kd.R_slice ho
    have hr3 := Kd.R_reads' ho
    have KP := Lib.hid (printC (toksT t) A3 c3 (by have := HL.out.1; omega) (by have := HL.out.2; omega) w3 ⟨hr3.2.2, hr3.2.1⟩)
    have HB3 := Lib.hid (HB2.out.trans (hb.mono HB2.out.size))
    clear ho hb hr3
    go_wp2_with fail
    refine KP.out.mono ?_
    rintro e w4 ⟨rfl, hb⟩
    have HB4 := Lib.hid (HB3.out.trans (hb.mono HB3.out.size))
    clear hb
    go_wp2_with fail
    go_ret
    exact ⟨rfl, HB4.out⟩
end Go.Proofs.YtchekgnacodolaaDoor.X
end
section
namespace Go.Proofs.YtchekgnacodolaaDoor.X
open Go.RowKit Go.Proofs.YtchekgnacodolaaDoorW.PrintWords Go.Proofs.YtchekgnacodolaaDoorW.PrintLast Go.Proofs.YtchekgnacodolaaDoorW.PrintMore
set_option linter.unusedSimpArgs false
set_option linter.unusedVariables false
structure Mk (g : Nat) (A : Option Addr) (c : Nat) (p s : List UInt8) (w : World) : Prop where
  blk : Own w g #[.slice A (p ++ s).length c, .int .i64 (p.length : Int)] 41
  rd : ∀ (j : Nat) b, (p ++ s)[j]? = some b → ∃ ad, A = some ad ∧ ad.block ≠ g ∧ w.cell? (ad.add j) = some (.int .u8 (b.toNat : Int))
  len : (p ++ s).length ≤ 1000
theorem Mk.past {g : Nat} {A : Option Addr} {c : Nat} {p s : List UInt8} {w w1 : World} (h : Mk g A c p s w) (hp : Below w.heap.size w w1) : Mk g A c p s w1 :=
  ⟨blk_below h.blk hp, fun j b hj => by obtain ⟨ad, e, hn, hc⟩ := h.rd j b hj; exact ⟨ad, e, hn, pw_cell_below hp hc⟩, h.len⟩
theorem Mk.step {g : Nat} {A : Option Addr} {c : Nat} {p s : List UInt8} {b : UInt8} {w : World} (h : Mk g A c p (b :: s) w) : Mk g A c (p ++ [b]) s (w.setCell ⟨g, 1, none⟩ (.int .i64 ((p.length : Int) + 1))) := by
  have e : p ++ [b] ++ s = p ++ b :: s := by simp
  refine ⟨?_, fun j x hj => ?_, by rw [e]; exact h.len⟩
  · have := blk_set h.blk 1 (.int .i64 ((p.length : Int) + 1))
    rw [e]
    have hl : (((p ++ [b]).length : Nat) : Int) = (p.length : Int) + 1 := by rw [List.length_append]; rfl
    rw [hl]
    simpa [Own] using this
  · rw [e] at hj
    obtain ⟨ad, ha, hn, hc⟩ := h.rd j x hj
    refine ⟨ad, ha, hn, ?_⟩
    rw [World.cell?_of_block (w := w) (Below.heap_setCell w ⟨g, 1, none⟩ _ _ (by rw [add_block]; exact hn))]
    exact hc
set_option maxRecDepth 100000 in
set_option maxHeartbeats 8000000 in
theorem byteC (g : Nat) (A : Option Addr) (c : Nat) (p s : List UInt8) (w : World) (h : Mk g A c p s w) :
    Calls Tryd.prog 23 #[.pointer (some ⟨g, 0, none⟩)] w fun e w' => e = .returned (.int .i64 (byteM s).1) ∧ Past g w w' ∧ ∃ p', p' ++ (byteM s).2 = p ++ s ∧ Mk g A c p' (byteM s).2 w' := by
  have c0 := h.blk.cell 0
  have c1 := h.blk.cell 1
  have cz := h.blk.fz 1
  have hn := h.len
  have HH := Lib.hid h
  cases s with
  | nil =>
    show Calls _ _ _ _ fun e w' => e = .returned (.int .i64 0) ∧ Past g w w' ∧ ∃ p', p' ++ [] = p ++ [] ∧ Mk g A c p' [] w'
    have hd : decide ((p ++ []).length ≤ p.length) = true := by simp
    clear h
    generalize (p ++ []).length = n at *
    generalize p.length = i at *
    go_enter Tryd.func23, Tryd.ntmps23
    go_wp2_with fail
    go_quiet (fail)
    go_wp2_with fail
    go_ret
    exact ⟨rfl, (Past.refl _ _).drewN _, p, rfl, HH.out.past (pw_below_drewN (Below.refl _ _) _)⟩
  | cons b s =>
    show Calls _ _ _ _ fun e w' => e = .returned (.int .i64 (b.toNat : Int)) ∧ Past g w w' ∧ ∃ p', p' ++ s = p ++ b :: s ∧ Mk g A c p' s w'
    obtain ⟨ad, rfl, hne, hc⟩ := h.rd p.length b (by simp)
    have hd : decide ((p ++ b :: s).length ≤ p.length) = false := by simp
    have hi : p.length < (p ++ b :: s).length := by simp
    have hb := b.toNat_lt
    have hS := fun m => (h.past (pw_below_drewN (Below.refl w.heap.size w) m)).step
    have e : p ++ [b] ++ s = p ++ b :: s := by simp
    have d0 : ∀ m, ((w.drewN m).setCell ⟨g, 1, none⟩ (.int .i64 ((p.length : Int) + 1))).cell? ⟨g, 0, none⟩ = some (.slice (some ad) (p ++ b :: s).length c) := fun m => ((hS m).blk.cell 0).trans (by rw [e]; rfl)
    have d1 : ∀ m, ((w.drewN m).setCell ⟨g, 1, none⟩ (.int .i64 ((p.length : Int) + 1))).cell? ⟨g, 1, none⟩ = some (.int .i64 ((p.length : Int) + 1)) := fun m => ((hS m).blk.cell 1).trans (by show some (Value.int .i64 (((p ++ [b]).length : Nat) : Int)) = _; rw [List.length_append]; rfl)
    have dc : ∀ m, ((w.drewN m).setCell ⟨g, 1, none⟩ (.int .i64 ((p.length : Int) + 1))).cell? (ad.add p.length) = some (.int .u8 (b.toNat : Int)) := fun m => by
      rw [World.cell?_of_block (w := w.drewN m) (Below.heap_setCell _ ⟨g, 1, none⟩ _ _ (by rw [add_block]; exact hne))]
      exact hc
    have HS := Lib.hid hS
    have HE := Lib.hid e
    have p0 : decide (0 ≤ (p.length : Int)) = true := by rw [decide_eq_true_eq]; omega
    have p1 : decide ((p.length : Int) < ((p ++ b :: s).length : Int)) = true := by rw [decide_eq_true_eq]; omega
    clear h hS e hc
    generalize (p ++ b :: s).length = n at *
    generalize p.length = i at *
    go_enter Tryd.func23, Tryd.ntmps23
    go_wp2_with fail
    go_quiet (fail)
    go_wp2_with fail
    go_quiet (fail)
    go_wp2_with fail
    go_ret
    exact ⟨rfl, (((Past.refl _ _).drewN _).set 1 _).drewN _, p ++ [b], HE.out, (HS.out _).past (pw_below_drewN (Below.refl _ _) _)⟩
theorem Mk.old {g : Nat} {A : Option Addr} {c : Nat} {p s p0 s0 : List UInt8} {w0 w w1 : World} (h0 : Mk g A c p0 s0 w0) (hpp : p ++ s = p0 ++ s0) (h : Mk g A c p s w) (hb : Below w0.heap.size w w1) : Mk g A c p s w1 := by
  refine ⟨(hb.block g (blk_lt h0.blk)).trans h.blk, fun j b hj => ?_, h.len⟩
  obtain ⟨ad, ha, hn, hc⟩ := h.rd j b hj
  obtain ⟨ad0, ha0, -, hc0⟩ := h0.rd j b (by rw [← hpp]; exact hj)
  rw [ha] at ha0
  injection ha0 with e
  subst e
  exact ⟨ad, ha, hn, (hb.cell (cell_lt hc0)).trans hc⟩
theorem Mk.at {g : Nat} {A : Option Addr} {c : Nat} {p s : List UInt8} {w : World} (h : Mk g A c p s w) : ∃ n i : Nat, w.cell? ⟨g, 0, none⟩ = some (.slice A n c) ∧ w.cell? ⟨g, 1, none⟩ = some (.int .i64 (i : Int)) ∧ (s = [] → decide (n ≤ i) = true) ∧ (s ≠ [] → decide (n ≤ i) = false) := by
  refine ⟨(p ++ s).length, p.length, h.blk.cell 0, h.blk.cell 1, fun e => by rw [e]; simp, fun e => ?_⟩
  have := List.length_pos_iff.2 e
  rw [decide_eq_false_iff_not, List.length_append]; omega
def MadeR (g : Nat) (A : Option Addr) (c : Nat) (p s : List UInt8) (w : World) (r : Tm × List UInt8) (e : Ending) (w' : World) : Prop :=
  ∃ A3 c3, e = .returned (.agg #[.int .i64 r.1.f0, .string r.1.f1, .int .i64 r.1.f2, .slice A3 r.1.f3.length c3]) ∧ r.1.f3.length ≤ c3 ∧
    Kd.F k26 w' (fun k => w.heap.size ≤ k) A3 r.1.f3.length r.1.f3 ∧ Past g w w' ∧ ∃ p', p' ++ r.2 = p ++ s ∧ Mk g A c p' r.2 w'
def MadeH (d : Nat) : Prop := ∀ (g : Nat) (A : Option Addr) (c : Nat) (p s : List UInt8) (w : World), Mk g A c p s w →
  Calls Tryd.prog 11 #[.pointer (some ⟨g, 0, none⟩), .int .i64 (d : Int)] w (MadeR g A c p s w (makeT d s))
abbrev mkNames : Array Value := #[.string ⟨#[120]⟩, .string ⟨#[121]⟩, .string ⟨#[122]⟩, .string ⟨#[99]⟩, .string ⟨#[102, 49]⟩]
abbrev mkOps : Array Value := #[.string ⟨#[43]⟩, .string ⟨#[45]⟩, .string ⟨#[42]⟩, .string ⟨#[60]⟩, .string ⟨#[61]⟩]
abbrev mkKids : Array Value := #[.int .i64 0, .int .i64 0, .int .i64 0, .int .i64 1, .int .i64 2, .int .i64 2, .int .i64 3, .int .i64 2, .int .i64 1, .int .i64 2, .int .i64 1, .int .i64 2, .int .i64 2, .int .i64 2]
theorem name_at (j : Nat) (h : j < 5) : mkNames[j]? = some (.string (madeNames.getD j noName)) := by
  have : j = 0 ∨ j = 1 ∨ j = 2 ∨ j = 3 ∨ j = 4 := by omega
  rcases this with rfl | rfl | rfl | rfl | rfl <;> rfl
theorem oper_at (j : Nat) (h : j < 5) : mkOps[j]? = some (.string (opWords.getD j noName)) := by
  have : j = 0 ∨ j = 1 ∨ j = 2 ∨ j = 3 ∨ j = 4 := by omega
  rcases this with rfl | rfl | rfl | rfl | rfl <;> rfl
theorem many_at (k : Nat) (h1 : 1 ≤ k) (h2 : k ≤ 13) : mkKids[k]? = some (.int .i64 (kidsOf k)) := by
  have : k = 1 ∨ k = 2 ∨ k = 3 ∨ k = 4 ∨ k = 5 ∨ k = 6 ∨ k = 7 ∨ k = 8 ∨ k = 9 ∨ k = 10 ∨ k = 11 ∨ k = 12 ∨ k = 13 := by omega
  rcases this with rfl | rfl | rfl | rfl | rfl | rfl | rfl | rfl | rfl | rfl | rfl | rfl | rfl <;> rfl
theorem mkInfo : (Tryd.prog.info? 26).map (fun i => (i.zero, i.size, i.bytes)) = some (some (.agg zeroV), 4, 56) := by kernel_rfl
theorem F_none (W : World) (ok : Nat → Prop) : Kd.F k26 W ok none 0 [] := fun W' _ => C_nil W'
theorem Own.past' {g b : Nat} {w w1 : World} {cs : Array Value} {T : TypeId} (h : Own w b cs T) (hp : Past g w w1) (hg : b ≠ g) : Own w1 b cs T := blk_past h hp hg
theorem Own.new2 (w : World) (o : Obj) (cs : Array Value) (T : TypeId) : Own ((w.alloc o).alloc (.cells cs T)) (w.heap.size + 1) cs T := by
  have e : (w.alloc o).heap.size = w.heap.size + 1 := by simp
  rw [← e]; exact Own.new _ _ _
theorem far_set {w : World} {g T j : Nat} {u : Value} {A : Option Addr} {c : Nat} {p s p0 s0 : List UInt8} {w0 : World} (h0 : Mk g A c p0 s0 w0) (hpp : p ++ s = p0 ++ s0) (h : Mk g A c p s w) (hT : w0.heap.size ≤ T) (hw : w0.heap.size ≤ w.heap.size) : Mk g A c p s (w.setCell ⟨T, j, none⟩ u) :=
  h0.old hpp h ((Below.refl w0.heap.size w).setCell hT u)
set_option maxRecDepth 100000 in
set_option maxHeartbeats 8000000 in
theorem term_numA (dv : Int) (hd0 : decide (dv ≤ 0) = true) (g : Nat) (A : Option Addr) (c : Nat) (p s : List UInt8) (w : World) (h : Mk g A c p s w) (x : Int) (s1 : List UInt8) (hs : byteM s = (x, s1)) (x2 : Int) (s2 : List UInt8) (hs2 : byteM s1 = (x2, s2)) (kk : Nat) (hkk : 1 + x % 13 = (kk : Int)) (hk2 : 1 + (kk : Int) % 2 = 1) (j : Nat) (hj : j < 5) (hq2 : x2 % 5 = (j : Int)) (nm2 : ByteArray) (hnm2 : madeNames.getD j noName = nm2) (x3 : Int) (s3 : List UInt8) (hs3 : byteM s2 = (x3, s3)) :
    Calls Tryd.prog 11 #[.pointer (some ⟨g, 0, none⟩), .int .i64 dv] w (MadeR g A c p s w (⟨1, ⟨#[]⟩, x3 * 8421504, []⟩, s3)) := by
  have hx := byteM_range s
  rw [hs] at hx
  have hx2 := byteM_range s1
  rw [hs2] at hx2
  have hb0 := below_alloc (Below.refl w.heap.size w) (.cells zeroV 26)
  have hg : g < w.heap.size := blk_lt h.blk
  have K1 := byteC g A c p s _ (h.past hb0)
  rw [hs] at K1
  have K1 := Lib.hid K1
  have HR0 := Lib.hid (Own.new w zeroV 26)
  have H0 := Lib.hid h
  have HP0 := Lib.hid (Past.of_below (g := g) hb0)
  clear h hb0 hs
  go_enter Tryd.func11, Tryd.ntmps11
  go_wp2_with fail
  refine K1.out.mono ?_
  rintro e w1 ⟨rfl, hp1, p1, hpp1, hm1⟩
  obtain ⟨ln, ix, a0, a1, hde1, hde2⟩ := hm1.at
  have HR1 := Lib.hid (Own.past' HR0.out hp1 (by omega))
  have P1 := Lib.hid (HP0.out.trans hp1)
  have hw1 : w.heap.size < w1.heap.size := by have := hp1.size; simp at this; omega
  have HM1 := Lib.hid hm1
  have HPP1 := Lib.hid hpp1
  clear hp1 hm1 hpp1 K1
  clear hde1 hde2
  go_wp2_with fail
  go_quiet (fail)
  have hq1 := pw_below_drewN (Below.refl w1.heap.size w1) nq
  have HM1 := Lib.hid (HM1.out.past hq1)
  have HR1 := Lib.hid (show Own (w1.drewN nq) w.heap.size zeroV 26 from HR1.out)
  have P1 := Lib.hid (P1.out.drewN nq)
  have hT1 : w.heap.size < (w1.drewN nq).heap.size := hw1
  generalize w1.drewN nq = wq at HM1 HR1 P1 hT1 ⊢
  have hX := Own.new wq zeroV 26
  have t0 := hX.cell 0
  have t1 := hX.cell 1
  have t2 := hX.cell 2
  have t3 := hX.cell 3
  have tz := fun i => hX.fz i
  have K2 := fun o1 o2 => byteC g A c p1 s1 ((wq.alloc o1).alloc o2) (HM1.out.past (below_alloc (below_alloc (Below.refl _ _) _) _))
  rw [hs2] at K2
  have K2 := Lib.hid K2
  clear hX hq1 hw1 hs2 a0 a1 hd0
  go_wp2_with fail
  refine (K2.out _ _).mono ?_
  rintro e w2 ⟨rfl, hp2, p2, hpp2, hm2⟩
  have hT2 : wq.heap.size + 1 < w2.heap.size := by have := hp2.size; simp at this; omega
  have OT := Own.past' (Own.alloc (show Own (wq.alloc (.cells #[.int .i64 1, .string ⟨#[]⟩, .int .i64 0, .slice none 0 0] 26)) wq.heap.size #[.int .i64 1, .string ⟨#[]⟩, .int .i64 0, .slice none 0 0] 26 from Own.new _ _ _) _) hp2 (by omega)
  have ON := Own.past' (Own.new2 wq (.cells #[.int .i64 1, .string ⟨#[]⟩, .int .i64 0, .slice none 0 0] 26) mkNames 9) hp2 (by omega)
  have q2 : w2.cell? ⟨wq.heap.size + 1, j, none⟩ = some (.string nm2) := (ON.cell j).trans (by rw [name_at j hj, hnm2])
  have HR2 := Lib.hid (Own.past' (Own.alloc (Own.alloc (show Own wq w.heap.size zeroV 26 from HR1.out) _) _) hp2 (by omega))
  have P2 := Lib.hid ((((P1.out).alloc (.cells #[.int .i64 1, .string ⟨#[]⟩, .int .i64 0, .slice none 0 0] 26)).alloc (.cells mkNames 9)).trans hp2)
  have HPP2 := Lib.hid (hpp2.trans HPP1.out)
  have HM2 := Lib.hid hm2
  have hj0 : decide (0 ≤ (j : Int)) = true := by rw [decide_eq_true_eq]; omega
  have hj5 : decide ((j : Int) < 5) = true := by rw [decide_eq_true_eq]; omega
  have u0 := OT.cell 0
  have u1 := OT.cell 1
  have u2 := OT.cell 2
  have u3 := OT.cell 3
  have uz := fun i => OT.fz i
  have HOT := Lib.hid OT
  clear hp2 hm2 hpp2 ON OT t0 t1 t2 t3 tz K2
  have K3 := byteC g A c p2 s2 _ HM2.out
  rw [hs3] at K3
  have K3 := Lib.hid K3
  have hx3 := byteM_range s2
  rw [hs3] at hx3
  go_wp2_with fail
  refine K3.out.mono ?_
  rintro e w3 ⟨rfl, hp3, p3, hpp3, hm3⟩
  have OT := Own.past' HOT.out hp3 (by omega)
  have u2 := OT.cell 2
  have uz := fun i => OT.fz i
  have OT2 : Own (w3.setCell ⟨wq.heap.size, 2, none⟩ (.int .i64 (x3 * 8421504))) wq.heap.size #[.int .i64 1, .string ⟨#[]⟩, .int .i64 (x3 * 8421504), .slice none 0 0] 26 := by simpa [Own] using blk_set OT 2 (.int .i64 (x3 * 8421504))
  have hT3 : wq.heap.size + 1 < w3.heap.size := by have := hp3.size; omega
  have HPPL := Lib.hid (hpp3.trans HPP2.out)
  have HML := Lib.hid (far_set (u := .int .i64 (x3 * 8421504)) (j := 2) (T := wq.heap.size) H0.out HPPL.out hm3 (by omega) (by omega))
  have HRL := Lib.hid (show Own (w3.setCell ⟨wq.heap.size, 2, none⟩ (.int .i64 (x3 * 8421504))) w.heap.size zeroV 26 from (Below.heap_setCell _ _ _ _ (by show w.heap.size ≠ wq.heap.size; omega)).trans (Own.past' HR2.out hp3 (by omega)))
  have PL := Lib.hid ((P2.out.trans hp3).new (a := ⟨wq.heap.size, 2, none⟩) (by show w.heap.size ≤ wq.heap.size; omega) (.int .i64 (x3 * 8421504)))
  have HOL := Lib.hid OT2
  clear hp3 hm3 hpp3 OT OT2 u0 u1 u3 K3 q2
  go_wp2_with fail
  generalize w3.setCell ⟨wq.heap.size, 2, none⟩ (.int .i64 (x3 * 8421504)) = wL at HML HRL PL HOL ⊢
  have hTL : wq.heap.size < wL.heap.size := blk_lt HOL.out
  clear HM2 HR2 P2 HOT HPP2 uz
  try clear u0
  try clear u1
  try clear u2
  try clear u3
  try clear q2
  try clear q3
  go_loopg [8] 0 (fun gk v8 wr => v8 = .int .i64 0 ∧ gk = 0 ∧ Aside0 (wr = wL))
  case atStart => exact ⟨rfl, rfl, ⟨rfl⟩⟩
  case round =>
    obtain ⟨rfl, hgk, HE⟩ := hrel
    obtain rfl := HE.out
    have hA := below_alloc (Below.refl wr.heap.size wr) (.cells mkKids 3)
    have OB : Own _ _ _ _ := blk_below HOL.out hA
    have u0 := OB.cell 0
    have u1 := OB.cell 1
    have u2 := OB.cell 2
    have u3 := OB.cell 3
    have RB : Own _ _ _ _ := blk_below HRL.out hA
    have r0 := RB.cell 0
    have r1 := RB.cell 1
    have r2 := RB.cell 2
    have r3 := RB.cell 3
    have rz := fun i => RB.fz i
    have HRB := Lib.hid RB
    have HPB := Lib.hid (PL.out.trans (Past.of_below hA))
    have HMB := Lib.hid (HML.out.past hA)
    have hsz : w.heap.size ≤ wr.heap.size := by omega
    clear hA OB RB
    go_wp2_with fail
    refine ret4 rfl rfl (Own.four HRB.out) ?_
    have hb4 := fun a b c d => four_set (w3size := 0) (a := a) (b := b) (c := c) (d := d) (Below.refl w.heap.size (wr.alloc (.cells mkKids 3)))
    exact ⟨none, 0, rfl, Nat.le_refl _, F_none _ _, HPB.out.belowN (hb4 _ _ _ _), _, HPPL.out, H0.out.old HPPL.out HMB.out (hb4 _ _ _ _)⟩
set_option maxRecDepth 100000 in
set_option maxHeartbeats 8000000 in
theorem term_numB (dv : Int) (hd0 : decide (dv ≤ 0) = false) (g : Nat) (A : Option Addr) (c : Nat) (p s : List UInt8) (w : World) (h : Mk g A c p s w) (x : Int) (s1 : List UInt8) (hs : byteM s = (x, s1)) (x2 : Int) (s2 : List UInt8) (hs2 : byteM s1 = (x2, s2)) (he : s1 = []) (kk : Nat) (hkk : 1 + x % 13 = (kk : Int)) (hk2 : 1 + (kk : Int) % 2 = 1) (j : Nat) (hj : j < 5) (hq2 : x2 % 5 = (j : Int)) (nm2 : ByteArray) (hnm2 : madeNames.getD j noName = nm2) (x3 : Int) (s3 : List UInt8) (hs3 : byteM s2 = (x3, s3)) :
    Calls Tryd.prog 11 #[.pointer (some ⟨g, 0, none⟩), .int .i64 dv] w (MadeR g A c p s w (⟨1, ⟨#[]⟩, x3 * 8421504, []⟩, s3)) := by
  have hx := byteM_range s
  rw [hs] at hx
  have hx2 := byteM_range s1
  rw [hs2] at hx2
  have hb0 := below_alloc (Below.refl w.heap.size w) (.cells zeroV 26)
  have hg : g < w.heap.size := blk_lt h.blk
  have K1 := byteC g A c p s _ (h.past hb0)
  rw [hs] at K1
  have K1 := Lib.hid K1
  have HR0 := Lib.hid (Own.new w zeroV 26)
  have H0 := Lib.hid h
  have HP0 := Lib.hid (Past.of_below (g := g) hb0)
  clear h hb0 hs
  go_enter Tryd.func11, Tryd.ntmps11
  go_wp2_with fail
  refine K1.out.mono ?_
  rintro e w1 ⟨rfl, hp1, p1, hpp1, hm1⟩
  obtain ⟨ln, ix, a0, a1, hde1, hde2⟩ := hm1.at
  have HR1 := Lib.hid (Own.past' HR0.out hp1 (by omega))
  have P1 := Lib.hid (HP0.out.trans hp1)
  have hw1 : w.heap.size < w1.heap.size := by have := hp1.size; simp at this; omega
  have HM1 := Lib.hid hm1
  have HPP1 := Lib.hid hpp1
  clear hp1 hm1 hpp1 K1
  have hde := hde1 he
  clear hde1 hde2 he
  go_wp2_with fail
  go_quiet (fail)
  have hq1 := pw_below_drewN (Below.refl w1.heap.size w1) nq
  have HM1 := Lib.hid (HM1.out.past hq1)
  have HR1 := Lib.hid (show Own (w1.drewN nq) w.heap.size zeroV 26 from HR1.out)
  have P1 := Lib.hid (P1.out.drewN nq)
  have hT1 : w.heap.size < (w1.drewN nq).heap.size := hw1
  generalize w1.drewN nq = wq at HM1 HR1 P1 hT1 ⊢
  have hX := Own.new wq zeroV 26
  have t0 := hX.cell 0
  have t1 := hX.cell 1
  have t2 := hX.cell 2
  have t3 := hX.cell 3
  have tz := fun i => hX.fz i
  have K2 := fun o1 o2 => byteC g A c p1 s1 ((wq.alloc o1).alloc o2) (HM1.out.past (below_alloc (below_alloc (Below.refl _ _) _) _))
  rw [hs2] at K2
  have K2 := Lib.hid K2
  clear hX hq1 hw1 hs2 a0 a1 hd0
  go_wp2_with fail
  refine (K2.out _ _).mono ?_
  rintro e w2 ⟨rfl, hp2, p2, hpp2, hm2⟩
  have hT2 : wq.heap.size + 1 < w2.heap.size := by have := hp2.size; simp at this; omega
  have OT := Own.past' (Own.alloc (show Own (wq.alloc (.cells #[.int .i64 1, .string ⟨#[]⟩, .int .i64 0, .slice none 0 0] 26)) wq.heap.size #[.int .i64 1, .string ⟨#[]⟩, .int .i64 0, .slice none 0 0] 26 from Own.new _ _ _) _) hp2 (by omega)
  have ON := Own.past' (Own.new2 wq (.cells #[.int .i64 1, .string ⟨#[]⟩, .int .i64 0, .slice none 0 0] 26) mkNames 9) hp2 (by omega)
  have q2 : w2.cell? ⟨wq.heap.size + 1, j, none⟩ = some (.string nm2) := (ON.cell j).trans (by rw [name_at j hj, hnm2])
  have HR2 := Lib.hid (Own.past' (Own.alloc (Own.alloc (show Own wq w.heap.size zeroV 26 from HR1.out) _) _) hp2 (by omega))
  have P2 := Lib.hid ((((P1.out).alloc (.cells #[.int .i64 1, .string ⟨#[]⟩, .int .i64 0, .slice none 0 0] 26)).alloc (.cells mkNames 9)).trans hp2)
  have HPP2 := Lib.hid (hpp2.trans HPP1.out)
  have HM2 := Lib.hid hm2
  have hj0 : decide (0 ≤ (j : Int)) = true := by rw [decide_eq_true_eq]; omega
  have hj5 : decide ((j : Int) < 5) = true := by rw [decide_eq_true_eq]; omega
  have u0 := OT.cell 0
  have u1 := OT.cell 1
  have u2 := OT.cell 2
  have u3 := OT.cell 3
  have uz := fun i => OT.fz i
  have HOT := Lib.hid OT
  clear hp2 hm2 hpp2 ON OT t0 t1 t2 t3 tz K2
  have K3 := byteC g A c p2 s2 _ HM2.out
  rw [hs3] at K3
  have K3 := Lib.hid K3
  have hx3 := byteM_range s2
  rw [hs3] at hx3
  go_wp2_with fail
  refine K3.out.mono ?_
  rintro e w3 ⟨rfl, hp3, p3, hpp3, hm3⟩
  have OT := Own.past' HOT.out hp3 (by omega)
  have u2 := OT.cell 2
  have uz := fun i => OT.fz i
  have OT2 : Own (w3.setCell ⟨wq.heap.size, 2, none⟩ (.int .i64 (x3 * 8421504))) wq.heap.size #[.int .i64 1, .string ⟨#[]⟩, .int .i64 (x3 * 8421504), .slice none 0 0] 26 := by simpa [Own] using blk_set OT 2 (.int .i64 (x3 * 8421504))
  have hT3 : wq.heap.size + 1 < w3.heap.size := by have := hp3.size; omega
  have HPPL := Lib.hid (hpp3.trans HPP2.out)
  have HML := Lib.hid (far_set (u := .int .i64 (x3 * 8421504)) (j := 2) (T := wq.heap.size) H0.out HPPL.out hm3 (by omega) (by omega))
  have HRL := Lib.hid (show Own (w3.setCell ⟨wq.heap.size, 2, none⟩ (.int .i64 (x3 * 8421504))) w.heap.size zeroV 26 from (Below.heap_setCell _ _ _ _ (by show w.heap.size ≠ wq.heap.size; omega)).trans (Own.past' HR2.out hp3 (by omega)))
  have PL := Lib.hid ((P2.out.trans hp3).new (a := ⟨wq.heap.size, 2, none⟩) (by show w.heap.size ≤ wq.heap.size; omega) (.int .i64 (x3 * 8421504)))
  have HOL := Lib.hid OT2
  clear hp3 hm3 hpp3 OT OT2 u0 u1 u3 K3 q2
  go_wp2_with fail
  generalize w3.setCell ⟨wq.heap.size, 2, none⟩ (.int .i64 (x3 * 8421504)) = wL at HML HRL PL HOL ⊢
  have hTL : wq.heap.size < wL.heap.size := blk_lt HOL.out
  clear HM2 HR2 P2 HOT HPP2 uz
  try clear u0
  try clear u1
  try clear u2
  try clear u3
  try clear q2
  try clear q3
  go_loopg [8] 0 (fun gk v8 wr => v8 = .int .i64 0 ∧ gk = 0 ∧ Aside0 (wr = wL))
  case atStart => exact ⟨rfl, rfl, ⟨rfl⟩⟩
  case round =>
    obtain ⟨rfl, hgk, HE⟩ := hrel
    obtain rfl := HE.out
    have hA := below_alloc (Below.refl wr.heap.size wr) (.cells mkKids 3)
    have OB : Own _ _ _ _ := blk_below HOL.out hA
    have u0 := OB.cell 0
    have u1 := OB.cell 1
    have u2 := OB.cell 2
    have u3 := OB.cell 3
    have RB : Own _ _ _ _ := blk_below HRL.out hA
    have r0 := RB.cell 0
    have r1 := RB.cell 1
    have r2 := RB.cell 2
    have r3 := RB.cell 3
    have rz := fun i => RB.fz i
    have HRB := Lib.hid RB
    have HPB := Lib.hid (PL.out.trans (Past.of_below hA))
    have HMB := Lib.hid (HML.out.past hA)
    have hsz : w.heap.size ≤ wr.heap.size := by omega
    clear hA OB RB
    go_wp2_with fail
    refine ret4 rfl rfl (Own.four HRB.out) ?_
    have hb4 := fun a b c d => four_set (w3size := 0) (a := a) (b := b) (c := c) (d := d) (Below.refl w.heap.size (wr.alloc (.cells mkKids 3)))
    exact ⟨none, 0, rfl, Nat.le_refl _, F_none _ _, HPB.out.belowN (hb4 _ _ _ _), _, HPPL.out, H0.out.old HPPL.out HMB.out (hb4 _ _ _ _)⟩
set_option maxRecDepth 100000 in
set_option maxHeartbeats 8000000 in
theorem term_numC (dv : Int) (hd0 : decide (dv ≤ 0) = false) (g : Nat) (A : Option Addr) (c : Nat) (p s : List UInt8) (w : World) (h : Mk g A c p s w) (x : Int) (s1 : List UInt8) (hs : byteM s = (x, s1)) (x2 : Int) (s2 : List UInt8) (hs2 : byteM s1 = (x2, s2)) (he : s1 ≠ []) (hkk : 1 + x % 13 = 1) (j : Nat) (hj : j < 5) (hq2 : x2 % 5 = (j : Int)) (nm2 : ByteArray) (hnm2 : madeNames.getD j noName = nm2) (x3 : Int) (s3 : List UInt8) (hs3 : byteM s2 = (x3, s3)) :
    Calls Tryd.prog 11 #[.pointer (some ⟨g, 0, none⟩), .int .i64 dv] w (MadeR g A c p s w (⟨1, ⟨#[]⟩, x3 * 8421504, []⟩, s3)) := by
  have hx := byteM_range s
  rw [hs] at hx
  have hx2 := byteM_range s1
  rw [hs2] at hx2
  have hb0 := below_alloc (Below.refl w.heap.size w) (.cells zeroV 26)
  have hg : g < w.heap.size := blk_lt h.blk
  have K1 := byteC g A c p s _ (h.past hb0)
  rw [hs] at K1
  have K1 := Lib.hid K1
  have HR0 := Lib.hid (Own.new w zeroV 26)
  have H0 := Lib.hid h
  have HP0 := Lib.hid (Past.of_below (g := g) hb0)
  clear h hb0 hs
  go_enter Tryd.func11, Tryd.ntmps11
  go_wp2_with fail
  refine K1.out.mono ?_
  rintro e w1 ⟨rfl, hp1, p1, hpp1, hm1⟩
  obtain ⟨ln, ix, a0, a1, hde1, hde2⟩ := hm1.at
  have HR1 := Lib.hid (Own.past' HR0.out hp1 (by omega))
  have P1 := Lib.hid (HP0.out.trans hp1)
  have hw1 : w.heap.size < w1.heap.size := by have := hp1.size; simp at this; omega
  have HM1 := Lib.hid hm1
  have HPP1 := Lib.hid hpp1
  clear hp1 hm1 hpp1 K1
  have hde := hde2 he
  clear hde1 hde2 he
  go_wp2_with fail
  go_quiet (fail)
  have hq1 := pw_below_drewN (Below.refl w1.heap.size w1) nq
  have HM1 := Lib.hid (HM1.out.past hq1)
  have HR1 := Lib.hid (show Own (w1.drewN nq) w.heap.size zeroV 26 from HR1.out)
  have P1 := Lib.hid (P1.out.drewN nq)
  have hT1 : w.heap.size < (w1.drewN nq).heap.size := hw1
  generalize w1.drewN nq = wq at HM1 HR1 P1 hT1 ⊢
  have hX := Own.new wq zeroV 26
  have t0 := hX.cell 0
  have t1 := hX.cell 1
  have t2 := hX.cell 2
  have t3 := hX.cell 3
  have tz := fun i => hX.fz i
  have K2 := fun o1 o2 => byteC g A c p1 s1 ((wq.alloc o1).alloc o2) (HM1.out.past (below_alloc (below_alloc (Below.refl _ _) _) _))
  rw [hs2] at K2
  have K2 := Lib.hid K2
  clear hX hq1 hw1 hs2 a0 a1 hd0
  go_wp2_with fail
  refine (K2.out _ _).mono ?_
  rintro e w2 ⟨rfl, hp2, p2, hpp2, hm2⟩
  have hT2 : wq.heap.size + 1 < w2.heap.size := by have := hp2.size; simp at this; omega
  have OT := Own.past' (Own.alloc (show Own (wq.alloc (.cells #[.int .i64 1, .string ⟨#[]⟩, .int .i64 0, .slice none 0 0] 26)) wq.heap.size #[.int .i64 1, .string ⟨#[]⟩, .int .i64 0, .slice none 0 0] 26 from Own.new _ _ _) _) hp2 (by omega)
  have ON := Own.past' (Own.new2 wq (.cells #[.int .i64 1, .string ⟨#[]⟩, .int .i64 0, .slice none 0 0] 26) mkNames 9) hp2 (by omega)
  have q2 : w2.cell? ⟨wq.heap.size + 1, j, none⟩ = some (.string nm2) := (ON.cell j).trans (by rw [name_at j hj, hnm2])
  have HR2 := Lib.hid (Own.past' (Own.alloc (Own.alloc (show Own wq w.heap.size zeroV 26 from HR1.out) _) _) hp2 (by omega))
  have P2 := Lib.hid ((((P1.out).alloc (.cells #[.int .i64 1, .string ⟨#[]⟩, .int .i64 0, .slice none 0 0] 26)).alloc (.cells mkNames 9)).trans hp2)
  have HPP2 := Lib.hid (hpp2.trans HPP1.out)
  have HM2 := Lib.hid hm2
  have hj0 : decide (0 ≤ (j : Int)) = true := by rw [decide_eq_true_eq]; omega
  have hj5 : decide ((j : Int) < 5) = true := by rw [decide_eq_true_eq]; omega
  have u0 := OT.cell 0
  have u1 := OT.cell 1
  have u2 := OT.cell 2
  have u3 := OT.cell 3
  have uz := fun i => OT.fz i
  have HOT := Lib.hid OT
  clear hp2 hm2 hpp2 ON OT t0 t1 t2 t3 tz K2
  have K3 := byteC g A c p2 s2 _ HM2.out
  rw [hs3] at K3
  have K3 := Lib.hid K3
  have hx3 := byteM_range s2
  rw [hs3] at hx3
  go_wp2_with fail
  refine K3.out.mono ?_
  rintro e w3 ⟨rfl, hp3, p3, hpp3, hm3⟩
  have OT := Own.past' HOT.out hp3 (by omega)
  have u2 := OT.cell 2
  have uz := fun i => OT.fz i
  have OT2 : Own (w3.setCell ⟨wq.heap.size, 2, none⟩ (.int .i64 (x3 * 8421504))) wq.heap.size #[.int .i64 1, .string ⟨#[]⟩, .int .i64 (x3 * 8421504), .slice none 0 0] 26 := by simpa [Own] using blk_set OT 2 (.int .i64 (x3 * 8421504))
  have hT3 : wq.heap.size + 1 < w3.heap.size := by have := hp3.size; omega
  have HPPL := Lib.hid (hpp3.trans HPP2.out)
  have HML := Lib.hid (far_set (u := .int .i64 (x3 * 8421504)) (j := 2) (T := wq.heap.size) H0.out HPPL.out hm3 (by omega) (by omega))
  have HRL := Lib.hid (show Own (w3.setCell ⟨wq.heap.size, 2, none⟩ (.int .i64 (x3 * 8421504))) w.heap.size zeroV 26 from (Below.heap_setCell _ _ _ _ (by show w.heap.size ≠ wq.heap.size; omega)).trans (Own.past' HR2.out hp3 (by omega)))
  have PL := Lib.hid ((P2.out.trans hp3).new (a := ⟨wq.heap.size, 2, none⟩) (by show w.heap.size ≤ wq.heap.size; omega) (.int .i64 (x3 * 8421504)))
  have HOL := Lib.hid OT2
  clear hp3 hm3 hpp3 OT OT2 u0 u1 u3 K3 q2
  go_wp2_with fail
  generalize w3.setCell ⟨wq.heap.size, 2, none⟩ (.int .i64 (x3 * 8421504)) = wL at HML HRL PL HOL ⊢
  have hTL : wq.heap.size < wL.heap.size := blk_lt HOL.out
  clear HM2 HR2 P2 HOT HPP2 uz
  try clear u0
  try clear u1
  try clear u2
  try clear u3
  try clear q2
  try clear q3
  go_loopg [8] 0 (fun gk v8 wr => v8 = .int .i64 0 ∧ gk = 0 ∧ Aside0 (wr = wL))
  case atStart => exact ⟨rfl, rfl, ⟨rfl⟩⟩
  case round =>
    obtain ⟨rfl, hgk, HE⟩ := hrel
    obtain rfl := HE.out
    have hA := below_alloc (Below.refl wr.heap.size wr) (.cells mkKids 3)
    have OB : Own _ _ _ _ := blk_below HOL.out hA
    have u0 := OB.cell 0
    have u1 := OB.cell 1
    have u2 := OB.cell 2
    have u3 := OB.cell 3
    have RB : Own _ _ _ _ := blk_below HRL.out hA
    have r0 := RB.cell 0
    have r1 := RB.cell 1
    have r2 := RB.cell 2
    have r3 := RB.cell 3
    have rz := fun i => RB.fz i
    have HRB := Lib.hid RB
    have HPB := Lib.hid (PL.out.trans (Past.of_below hA))
    have HMB := Lib.hid (HML.out.past hA)
    have hsz : w.heap.size ≤ wr.heap.size := by omega
    clear hA OB RB
    go_wp2_with fail
    refine ret4 rfl rfl (Own.four HRB.out) ?_
    have hb4 := fun a b c d => four_set (w3size := 0) (a := a) (b := b) (c := c) (d := d) (Below.refl w.heap.size (wr.alloc (.cells mkKids 3)))
    exact ⟨none, 0, rfl, Nat.le_refl _, F_none _ _, HPB.out.belowN (hb4 _ _ _ _), _, HPPL.out, H0.out.old HPPL.out HMB.out (hb4 _ _ _ _)⟩
set_option maxRecDepth 100000 in
set_option maxHeartbeats 8000000 in
theorem term_varA (dv : Int) (hd0 : decide (dv ≤ 0) = true) (g : Nat) (A : Option Addr) (c : Nat) (p s : List UInt8) (w : World) (h : Mk g A c p s w) (x : Int) (s1 : List UInt8) (hs : byteM s = (x, s1)) (x2 : Int) (s2 : List UInt8) (hs2 : byteM s1 = (x2, s2)) (kk : Nat) (hkk : 1 + x % 13 = (kk : Int)) (hk2 : 1 + (kk : Int) % 2 = 2) (j : Nat) (hj : j < 5) (hq2 : x2 % 5 = (j : Int)) (nm2 : ByteArray) (hnm2 : madeNames.getD j noName = nm2) :
    Calls Tryd.prog 11 #[.pointer (some ⟨g, 0, none⟩), .int .i64 dv] w (MadeR g A c p s w (⟨2, nm2, 0, []⟩, s2)) := by
  have hx := byteM_range s
  rw [hs] at hx
  have hx2 := byteM_range s1
  rw [hs2] at hx2
  have hb0 := below_alloc (Below.refl w.heap.size w) (.cells zeroV 26)
  have hg : g < w.heap.size := blk_lt h.blk
  have K1 := byteC g A c p s _ (h.past hb0)
  rw [hs] at K1
  have K1 := Lib.hid K1
  have HR0 := Lib.hid (Own.new w zeroV 26)
  have H0 := Lib.hid h
  have HP0 := Lib.hid (Past.of_below (g := g) hb0)
  clear h hb0 hs
  go_enter Tryd.func11, Tryd.ntmps11
  go_wp2_with fail
  refine K1.out.mono ?_
  rintro e w1 ⟨rfl, hp1, p1, hpp1, hm1⟩
  obtain ⟨ln, ix, a0, a1, hde1, hde2⟩ := hm1.at
  have HR1 := Lib.hid (Own.past' HR0.out hp1 (by omega))
  have P1 := Lib.hid (HP0.out.trans hp1)
  have hw1 : w.heap.size < w1.heap.size := by have := hp1.size; simp at this; omega
  have HM1 := Lib.hid hm1
  have HPP1 := Lib.hid hpp1
  clear hp1 hm1 hpp1 K1
  clear hde1 hde2
  go_wp2_with fail
  go_quiet (fail)
  have hq1 := pw_below_drewN (Below.refl w1.heap.size w1) nq
  have HM1 := Lib.hid (HM1.out.past hq1)
  have HR1 := Lib.hid (show Own (w1.drewN nq) w.heap.size zeroV 26 from HR1.out)
  have P1 := Lib.hid (P1.out.drewN nq)
  have hT1 : w.heap.size < (w1.drewN nq).heap.size := hw1
  generalize w1.drewN nq = wq at HM1 HR1 P1 hT1 ⊢
  have hX := Own.new wq zeroV 26
  have t0 := hX.cell 0
  have t1 := hX.cell 1
  have t2 := hX.cell 2
  have t3 := hX.cell 3
  have tz := fun i => hX.fz i
  have K2 := fun o1 o2 => byteC g A c p1 s1 ((wq.alloc o1).alloc o2) (HM1.out.past (below_alloc (below_alloc (Below.refl _ _) _) _))
  rw [hs2] at K2
  have K2 := Lib.hid K2
  clear hX hq1 hw1 hs2 a0 a1 hd0
  go_wp2_with fail
  refine (K2.out _ _).mono ?_
  rintro e w2 ⟨rfl, hp2, p2, hpp2, hm2⟩
  have hT2 : wq.heap.size + 1 < w2.heap.size := by have := hp2.size; simp at this; omega
  have OT := Own.past' (Own.alloc (show Own (wq.alloc (.cells #[.int .i64 2, .string ⟨#[]⟩, .int .i64 0, .slice none 0 0] 26)) wq.heap.size #[.int .i64 2, .string ⟨#[]⟩, .int .i64 0, .slice none 0 0] 26 from Own.new _ _ _) _) hp2 (by omega)
  have ON := Own.past' (Own.new2 wq (.cells #[.int .i64 2, .string ⟨#[]⟩, .int .i64 0, .slice none 0 0] 26) mkNames 9) hp2 (by omega)
  have q2 : w2.cell? ⟨wq.heap.size + 1, j, none⟩ = some (.string nm2) := (ON.cell j).trans (by rw [name_at j hj, hnm2])
  have HR2 := Lib.hid (Own.past' (Own.alloc (Own.alloc (show Own wq w.heap.size zeroV 26 from HR1.out) _) _) hp2 (by omega))
  have P2 := Lib.hid ((((P1.out).alloc (.cells #[.int .i64 2, .string ⟨#[]⟩, .int .i64 0, .slice none 0 0] 26)).alloc (.cells mkNames 9)).trans hp2)
  have HPP2 := Lib.hid (hpp2.trans HPP1.out)
  have HM2 := Lib.hid hm2
  have hj0 : decide (0 ≤ (j : Int)) = true := by rw [decide_eq_true_eq]; omega
  have hj5 : decide ((j : Int) < 5) = true := by rw [decide_eq_true_eq]; omega
  have u0 := OT.cell 0
  have u1 := OT.cell 1
  have u2 := OT.cell 2
  have u3 := OT.cell 3
  have uz := fun i => OT.fz i
  have HOT := Lib.hid OT
  clear hp2 hm2 hpp2 ON OT t0 t1 t2 t3 tz K2
  have w3e : ∃ w3, w3 = w2 := ⟨_, rfl⟩
  obtain ⟨w3, hw3⟩ := w3e
  have OT := HOT.out
  have OT2 : Own (w2.setCell ⟨wq.heap.size, 1, none⟩ (.string nm2)) wq.heap.size #[.int .i64 2, .string nm2, .int .i64 0, .slice none 0 0] 26 := by simpa [Own] using blk_set OT 1 (.string nm2)
  have HPPL := Lib.hid HPP2.out
  have hTL0 : wq.heap.size < w2.heap.size := blk_lt OT
  have HML := Lib.hid (far_set (u := .string nm2) (j := 1) (T := wq.heap.size) H0.out HPPL.out HM2.out (by omega) (by omega))
  have HRL := Lib.hid (show Own (w2.setCell ⟨wq.heap.size, 1, none⟩ (.string nm2)) w.heap.size zeroV 26 from (Below.heap_setCell _ _ _ _ (by show w.heap.size ≠ wq.heap.size; omega)).trans HR2.out)
  have PL := Lib.hid (P2.out.new (a := ⟨wq.heap.size, 1, none⟩) (by show w.heap.size ≤ wq.heap.size; omega) (.string nm2))
  have HOL := Lib.hid OT2
  clear OT OT2
  go_wp2_with fail
  generalize w2.setCell ⟨wq.heap.size, 1, none⟩ (.string nm2) = wL at HML HRL PL HOL ⊢
  have hTL : wq.heap.size < wL.heap.size := blk_lt HOL.out
  clear HM2 HR2 P2 HOT HPP2 uz
  try clear u0
  try clear u1
  try clear u2
  try clear u3
  try clear q2
  try clear q3
  go_loopg [8] 0 (fun gk v8 wr => v8 = .int .i64 0 ∧ gk = 0 ∧ Aside0 (wr = wL))
  case atStart => exact ⟨rfl, rfl, ⟨rfl⟩⟩
  case round =>
    obtain ⟨rfl, hgk, HE⟩ := hrel
    obtain rfl := HE.out
    have hA := below_alloc (Below.refl wr.heap.size wr) (.cells mkKids 3)
    have OB : Own _ _ _ _ := blk_below HOL.out hA
    have u0 := OB.cell 0
    have u1 := OB.cell 1
    have u2 := OB.cell 2
    have u3 := OB.cell 3
    have RB : Own _ _ _ _ := blk_below HRL.out hA
    have r0 := RB.cell 0
    have r1 := RB.cell 1
    have r2 := RB.cell 2
    have r3 := RB.cell 3
    have rz := fun i => RB.fz i
    have HRB := Lib.hid RB
    have HPB := Lib.hid (PL.out.trans (Past.of_below hA))
    have HMB := Lib.hid (HML.out.past hA)
    have hsz : w.heap.size ≤ wr.heap.size := by omega
    clear hA OB RB
    go_wp2_with fail
    refine ret4 rfl rfl (Own.four HRB.out) ?_
    have hb4 := fun a b c d => four_set (w3size := 0) (a := a) (b := b) (c := c) (d := d) (Below.refl w.heap.size (wr.alloc (.cells mkKids 3)))
    exact ⟨none, 0, rfl, Nat.le_refl _, F_none _ _, HPB.out.belowN (hb4 _ _ _ _), _, HPPL.out, H0.out.old HPPL.out HMB.out (hb4 _ _ _ _)⟩
set_option maxRecDepth 100000 in
set_option maxHeartbeats 8000000 in
theorem term_varB (dv : Int) (hd0 : decide (dv ≤ 0) = false) (g : Nat) (A : Option Addr) (c : Nat) (p s : List UInt8) (w : World) (h : Mk g A c p s w) (x : Int) (s1 : List UInt8) (hs : byteM s = (x, s1)) (x2 : Int) (s2 : List UInt8) (hs2 : byteM s1 = (x2, s2)) (he : s1 = []) (kk : Nat) (hkk : 1 + x % 13 = (kk : Int)) (hk2 : 1 + (kk : Int) % 2 = 2) (j : Nat) (hj : j < 5) (hq2 : x2 % 5 = (j : Int)) (nm2 : ByteArray) (hnm2 : madeNames.getD j noName = nm2) :
    Calls Tryd.prog 11 #[.pointer (some ⟨g, 0, none⟩), .int .i64 dv] w (MadeR g A c p s w (⟨2, nm2, 0, []⟩, s2)) := by
  have hx := byteM_range s
  rw [hs] at hx
  have hx2 := byteM_range s1
  rw [hs2] at hx2
  have hb0 := below_alloc (Below.refl w.heap.size w) (.cells zeroV 26)
  have hg : g < w.heap.size := blk_lt h.blk
  have K1 := byteC g A c p s _ (h.past hb0)
  rw [hs] at K1
  have K1 := Lib.hid K1
  have HR0 := Lib.hid (Own.new w zeroV 26)
  have H0 := Lib.hid h
  have HP0 := Lib.hid (Past.of_below (g := g) hb0)
  clear h hb0 hs
  go_enter Tryd.func11, Tryd.ntmps11
  go_wp2_with fail
  refine K1.out.mono ?_
  rintro e w1 ⟨rfl, hp1, p1, hpp1, hm1⟩
  obtain ⟨ln, ix, a0, a1, hde1, hde2⟩ := hm1.at
  have HR1 := Lib.hid (Own.past' HR0.out hp1 (by omega))
  have P1 := Lib.hid (HP0.out.trans hp1)
  have hw1 : w.heap.size < w1.heap.size := by have := hp1.size; simp at this; omega
  have HM1 := Lib.hid hm1
  have HPP1 := Lib.hid hpp1
  clear hp1 hm1 hpp1 K1
  have hde := hde1 he
  clear hde1 hde2 he
  go_wp2_with fail
  go_quiet (fail)
  have hq1 := pw_below_drewN (Below.refl w1.heap.size w1) nq
  have HM1 := Lib.hid (HM1.out.past hq1)
  have HR1 := Lib.hid (show Own (w1.drewN nq) w.heap.size zeroV 26 from HR1.out)
  have P1 := Lib.hid (P1.out.drewN nq)
  have hT1 : w.heap.size < (w1.drewN nq).heap.size := hw1
  generalize w1.drewN nq = wq at HM1 HR1 P1 hT1 ⊢
  have hX := Own.new wq zeroV 26
  have t0 := hX.cell 0
  have t1 := hX.cell 1
  have t2 := hX.cell 2
  have t3 := hX.cell 3
  have tz := fun i => hX.fz i
  have K2 := fun o1 o2 => byteC g A c p1 s1 ((wq.alloc o1).alloc o2) (HM1.out.past (below_alloc (below_alloc (Below.refl _ _) _) _))
  rw [hs2] at K2
  have K2 := Lib.hid K2
  clear hX hq1 hw1 hs2 a0 a1 hd0
  go_wp2_with fail
  refine (K2.out _ _).mono ?_
  rintro e w2 ⟨rfl, hp2, p2, hpp2, hm2⟩
  have hT2 : wq.heap.size + 1 < w2.heap.size := by have := hp2.size; simp at this; omega
  have OT := Own.past' (Own.alloc (show Own (wq.alloc (.cells #[.int .i64 2, .string ⟨#[]⟩, .int .i64 0, .slice none 0 0] 26)) wq.heap.size #[.int .i64 2, .string ⟨#[]⟩, .int .i64 0, .slice none 0 0] 26 from Own.new _ _ _) _) hp2 (by omega)
  have ON := Own.past' (Own.new2 wq (.cells #[.int .i64 2, .string ⟨#[]⟩, .int .i64 0, .slice none 0 0] 26) mkNames 9) hp2 (by omega)
  have q2 : w2.cell? ⟨wq.heap.size + 1, j, none⟩ = some (.string nm2) := (ON.cell j).trans (by rw [name_at j hj, hnm2])
  have HR2 := Lib.hid (Own.past' (Own.alloc (Own.alloc (show Own wq w.heap.size zeroV 26 from HR1.out) _) _) hp2 (by omega))
  have P2 := Lib.hid ((((P1.out).alloc (.cells #[.int .i64 2, .string ⟨#[]⟩, .int .i64 0, .slice none 0 0] 26)).alloc (.cells mkNames 9)).trans hp2)
  have HPP2 := Lib.hid (hpp2.trans HPP1.out)
  have HM2 := Lib.hid hm2
  have hj0 : decide (0 ≤ (j : Int)) = true := by rw [decide_eq_true_eq]; omega
  have hj5 : decide ((j : Int) < 5) = true := by rw [decide_eq_true_eq]; omega
  have u0 := OT.cell 0
  have u1 := OT.cell 1
  have u2 := OT.cell 2
  have u3 := OT.cell 3
  have uz := fun i => OT.fz i
  have HOT := Lib.hid OT
  clear hp2 hm2 hpp2 ON OT t0 t1 t2 t3 tz K2
  have w3e : ∃ w3, w3 = w2 := ⟨_, rfl⟩
  obtain ⟨w3, hw3⟩ := w3e
  have OT := HOT.out
  have OT2 : Own (w2.setCell ⟨wq.heap.size, 1, none⟩ (.string nm2)) wq.heap.size #[.int .i64 2, .string nm2, .int .i64 0, .slice none 0 0] 26 := by simpa [Own] using blk_set OT 1 (.string nm2)
  have HPPL := Lib.hid HPP2.out
  have hTL0 : wq.heap.size < w2.heap.size := blk_lt OT
  have HML := Lib.hid (far_set (u := .string nm2) (j := 1) (T := wq.heap.size) H0.out HPPL.out HM2.out (by omega) (by omega))
  have HRL := Lib.hid (show Own (w2.setCell ⟨wq.heap.size, 1, none⟩ (.string nm2)) w.heap.size zeroV 26 from (Below.heap_setCell _ _ _ _ (by show w.heap.size ≠ wq.heap.size; omega)).trans HR2.out)
  have PL := Lib.hid (P2.out.new (a := ⟨wq.heap.size, 1, none⟩) (by show w.heap.size ≤ wq.heap.size; omega) (.string nm2))
  have HOL := Lib.hid OT2
  clear OT OT2
  go_wp2_with fail
  generalize w2.setCell ⟨wq.heap.size, 1, none⟩ (.string nm2) = wL at HML HRL PL HOL ⊢
  have hTL : wq.heap.size < wL.heap.size := blk_lt HOL.out
  clear HM2 HR2 P2 HOT HPP2 uz
  try clear u0
  try clear u1
  try clear u2
  try clear u3
  try clear q2
  try clear q3
  go_loopg [8] 0 (fun gk v8 wr => v8 = .int .i64 0 ∧ gk = 0 ∧ Aside0 (wr = wL))
  case atStart => exact ⟨rfl, rfl, ⟨rfl⟩⟩
  case round =>
    obtain ⟨rfl, hgk, HE⟩ := hrel
    obtain rfl := HE.out
    have hA := below_alloc (Below.refl wr.heap.size wr) (.cells mkKids 3)
    have OB : Own _ _ _ _ := blk_below HOL.out hA
    have u0 := OB.cell 0
    have u1 := OB.cell 1
    have u2 := OB.cell 2
    have u3 := OB.cell 3
    have RB : Own _ _ _ _ := blk_below HRL.out hA
    have r0 := RB.cell 0
    have r1 := RB.cell 1
    have r2 := RB.cell 2
    have r3 := RB.cell 3
    have rz := fun i => RB.fz i
    have HRB := Lib.hid RB
    have HPB := Lib.hid (PL.out.trans (Past.of_below hA))
    have HMB := Lib.hid (HML.out.past hA)
    have hsz : w.heap.size ≤ wr.heap.size := by omega
    clear hA OB RB
    go_wp2_with fail
    refine ret4 rfl rfl (Own.four HRB.out) ?_
    have hb4 := fun a b c d => four_set (w3size := 0) (a := a) (b := b) (c := c) (d := d) (Below.refl w.heap.size (wr.alloc (.cells mkKids 3)))
    exact ⟨none, 0, rfl, Nat.le_refl _, F_none _ _, HPB.out.belowN (hb4 _ _ _ _), _, HPPL.out, H0.out.old HPPL.out HMB.out (hb4 _ _ _ _)⟩
set_option maxRecDepth 100000 in
set_option maxHeartbeats 8000000 in
theorem term_varC (dv : Int) (hd0 : decide (dv ≤ 0) = false) (g : Nat) (A : Option Addr) (c : Nat) (p s : List UInt8) (w : World) (h : Mk g A c p s w) (x : Int) (s1 : List UInt8) (hs : byteM s = (x, s1)) (x2 : Int) (s2 : List UInt8) (hs2 : byteM s1 = (x2, s2)) (he : s1 ≠ []) (hkk : 1 + x % 13 = 2) (j : Nat) (hj : j < 5) (hq2 : x2 % 5 = (j : Int)) (nm2 : ByteArray) (hnm2 : madeNames.getD j noName = nm2) :
    Calls Tryd.prog 11 #[.pointer (some ⟨g, 0, none⟩), .int .i64 dv] w (MadeR g A c p s w (⟨2, nm2, 0, []⟩, s2)) := by
  have hx := byteM_range s
  rw [hs] at hx
  have hx2 := byteM_range s1
  rw [hs2] at hx2
  have hb0 := below_alloc (Below.refl w.heap.size w) (.cells zeroV 26)
  have hg : g < w.heap.size := blk_lt h.blk
  have K1 := byteC g A c p s _ (h.past hb0)
  rw [hs] at K1
  have K1 := Lib.hid K1
  have HR0 := Lib.hid (Own.new w zeroV 26)
  have H0 := Lib.hid h
  have HP0 := Lib.hid (Past.of_below (g := g) hb0)
  clear h hb0 hs
  go_enter Tryd.func11, Tryd.ntmps11
  go_wp2_with fail
  refine K1.out.mono ?_
  rintro e w1 ⟨rfl, hp1, p1, hpp1, hm1⟩
  obtain ⟨ln, ix, a0, a1, hde1, hde2⟩ := hm1.at
  have HR1 := Lib.hid (Own.past' HR0.out hp1 (by omega))
  have P1 := Lib.hid (HP0.out.trans hp1)
  have hw1 : w.heap.size < w1.heap.size := by have := hp1.size; simp at this; omega
  have HM1 := Lib.hid hm1
  have HPP1 := Lib.hid hpp1
  clear hp1 hm1 hpp1 K1
  have hde := hde2 he
  clear hde1 hde2 he
  go_wp2_with fail
  go_quiet (fail)
  have hq1 := pw_below_drewN (Below.refl w1.heap.size w1) nq
  have HM1 := Lib.hid (HM1.out.past hq1)
  have HR1 := Lib.hid (show Own (w1.drewN nq) w.heap.size zeroV 26 from HR1.out)
  have P1 := Lib.hid (P1.out.drewN nq)
  have hT1 : w.heap.size < (w1.drewN nq).heap.size := hw1
  generalize w1.drewN nq = wq at HM1 HR1 P1 hT1 ⊢
  have hX := Own.new wq zeroV 26
  have t0 := hX.cell 0
  have t1 := hX.cell 1
  have t2 := hX.cell 2
  have t3 := hX.cell 3
  have tz := fun i => hX.fz i
  have K2 := fun o1 o2 => byteC g A c p1 s1 ((wq.alloc o1).alloc o2) (HM1.out.past (below_alloc (below_alloc (Below.refl _ _) _) _))
  rw [hs2] at K2
  have K2 := Lib.hid K2
  clear hX hq1 hw1 hs2 a0 a1 hd0
  go_wp2_with fail
  refine (K2.out _ _).mono ?_
  rintro e w2 ⟨rfl, hp2, p2, hpp2, hm2⟩
  have hT2 : wq.heap.size + 1 < w2.heap.size := by have := hp2.size; simp at this; omega
  have OT := Own.past' (Own.alloc (show Own (wq.alloc (.cells #[.int .i64 2, .string ⟨#[]⟩, .int .i64 0, .slice none 0 0] 26)) wq.heap.size #[.int .i64 2, .string ⟨#[]⟩, .int .i64 0, .slice none 0 0] 26 from Own.new _ _ _) _) hp2 (by omega)
  have ON := Own.past' (Own.new2 wq (.cells #[.int .i64 2, .string ⟨#[]⟩, .int .i64 0, .slice none 0 0] 26) mkNames 9) hp2 (by omega)
  have q2 : w2.cell? ⟨wq.heap.size + 1, j, none⟩ = some (.string nm2) := (ON.cell j).trans (by rw [name_at j hj, hnm2])
  have HR2 := Lib.hid (Own.past' (Own.alloc (Own.alloc (show Own wq w.heap.size zeroV 26 from HR1.out) _) _) hp2 (by omega))
  have P2 := Lib.hid ((((P1.out).alloc (.cells #[.int .i64 2, .string ⟨#[]⟩, .int .i64 0, .slice none 0 0] 26)).alloc (.cells mkNames 9)).trans hp2)
  have HPP2 := Lib.hid (hpp2.trans HPP1.out)
  have HM2 := Lib.hid hm2
  have hj0 : decide (0 ≤ (j : Int)) = true := by rw [decide_eq_true_eq]; omega
  have hj5 : decide ((j : Int) < 5) = true := by rw [decide_eq_true_eq]; omega
  have u0 := OT.cell 0
  have u1 := OT.cell 1
  have u2 := OT.cell 2
  have u3 := OT.cell 3
  have uz := fun i => OT.fz i
  have HOT := Lib.hid OT
  clear hp2 hm2 hpp2 ON OT t0 t1 t2 t3 tz K2
  have w3e : ∃ w3, w3 = w2 := ⟨_, rfl⟩
  obtain ⟨w3, hw3⟩ := w3e
  have OT := HOT.out
  have OT2 : Own (w2.setCell ⟨wq.heap.size, 1, none⟩ (.string nm2)) wq.heap.size #[.int .i64 2, .string nm2, .int .i64 0, .slice none 0 0] 26 := by simpa [Own] using blk_set OT 1 (.string nm2)
  have HPPL := Lib.hid HPP2.out
  have hTL0 : wq.heap.size < w2.heap.size := blk_lt OT
  have HML := Lib.hid (far_set (u := .string nm2) (j := 1) (T := wq.heap.size) H0.out HPPL.out HM2.out (by omega) (by omega))
  have HRL := Lib.hid (show Own (w2.setCell ⟨wq.heap.size, 1, none⟩ (.string nm2)) w.heap.size zeroV 26 from (Below.heap_setCell _ _ _ _ (by show w.heap.size ≠ wq.heap.size; omega)).trans HR2.out)
  have PL := Lib.hid (P2.out.new (a := ⟨wq.heap.size, 1, none⟩) (by show w.heap.size ≤ wq.heap.size; omega) (.string nm2))
  have HOL := Lib.hid OT2
  clear OT OT2
  go_wp2_with fail
  generalize w2.setCell ⟨wq.heap.size, 1, none⟩ (.string nm2) = wL at HML HRL PL HOL ⊢
  have hTL : wq.heap.size < wL.heap.size := blk_lt HOL.out
  clear HM2 HR2 P2 HOT HPP2 uz
  try clear u0
  try clear u1
  try clear u2
  try clear u3
  try clear q2
  try clear q3
  go_loopg [8] 0 (fun gk v8 wr => v8 = .int .i64 0 ∧ gk = 0 ∧ Aside0 (wr = wL))
  case atStart => exact ⟨rfl, rfl, ⟨rfl⟩⟩
  case round =>
    obtain ⟨rfl, hgk, HE⟩ := hrel
    obtain rfl := HE.out
    have hA := below_alloc (Below.refl wr.heap.size wr) (.cells mkKids 3)
    have OB : Own _ _ _ _ := blk_below HOL.out hA
    have u0 := OB.cell 0
    have u1 := OB.cell 1
    have u2 := OB.cell 2
    have u3 := OB.cell 3
    have RB : Own _ _ _ _ := blk_below HRL.out hA
    have r0 := RB.cell 0
    have r1 := RB.cell 1
    have r2 := RB.cell 2
    have r3 := RB.cell 3
    have rz := fun i => RB.fz i
    have HRB := Lib.hid RB
    have HPB := Lib.hid (PL.out.trans (Past.of_below hA))
    have HMB := Lib.hid (HML.out.past hA)
    have hsz : w.heap.size ≤ wr.heap.size := by omega
    clear hA OB RB
    go_wp2_with fail
    refine ret4 rfl rfl (Own.four HRB.out) ?_
    have hb4 := fun a b c d => four_set (w3size := 0) (a := a) (b := b) (c := c) (d := d) (Below.refl w.heap.size (wr.alloc (.cells mkKids 3)))
    exact ⟨none, 0, rfl, Nat.le_refl _, F_none _ _, HPB.out.belowN (hb4 _ _ _ _), _, HPPL.out, H0.out.old HPPL.out HMB.out (hb4 _ _ _ _)⟩
set_option maxRecDepth 100000 in
set_option maxHeartbeats 8000000 in
theorem term_opC (d : Nat) (hd : d ≤ 100) (ih : MadeH d) (g : Nat) (A : Option Addr) (c : Nat) (p s : List UInt8) (w : World) (h : Mk g A c p s w) (x : Int) (s1 : List UInt8) (hs : byteM s = (x, s1)) (x2 : Int) (s2 : List UInt8) (hs2 : byteM s1 = (x2, s2)) (he : s1 ≠ []) (hkk : 1 + x % 13 = 12) (j : Nat) (hj : j < 5) (hq2 : x2 % 5 = (j : Int)) (nm2 : ByteArray) (hnm2 : madeNames.getD j noName = nm2) (x3 : Int) (s3 : List UInt8) (hs3 : byteM s2 = (x3, s3)) (j3 : Nat) (hj3 : j3 < 5) (hq3 : x3 % 5 = (j3 : Int)) (nm3 : ByteArray) (hnm3 : opWords.getD j3 noName = nm3) (q : Nat) (hq : kidsOf 12 = (q : Int)) (hq4 : q ≤ 3) :
    Calls Tryd.prog 11 #[.pointer (some ⟨g, 0, none⟩), .int .i64 ((d : Int) + 1)] w (MadeR g A c p s w (⟨12, nm3, 0, (kidsM (makeT d) q s3).1⟩, (kidsM (makeT d) q s3).2)) := by
  have hd0 : decide ((d : Int) + 1 ≤ 0) = false := by rw [decide_eq_false_iff_not]; omega
  have hx := byteM_range s
  rw [hs] at hx
  have hx2 := byteM_range s1
  rw [hs2] at hx2
  have hb0 := below_alloc (Below.refl w.heap.size w) (.cells zeroV 26)
  have hg : g < w.heap.size := blk_lt h.blk
  have K1 := byteC g A c p s _ (h.past hb0)
  rw [hs] at K1
  have K1 := Lib.hid K1
  have HR0 := Lib.hid (Own.new w zeroV 26)
  have H0 := Lib.hid h
  have HP0 := Lib.hid (Past.of_below (g := g) hb0)
  clear h hb0 hs
  go_enter Tryd.func11, Tryd.ntmps11
  go_wp2_with fail
  refine K1.out.mono ?_
  rintro e w1 ⟨rfl, hp1, p1, hpp1, hm1⟩
  obtain ⟨ln, ix, a0, a1, hde1, hde2⟩ := hm1.at
  have HR1 := Lib.hid (Own.past' HR0.out hp1 (by omega))
  have P1 := Lib.hid (HP0.out.trans hp1)
  have hw1 : w.heap.size < w1.heap.size := by have := hp1.size; simp at this; omega
  have HM1 := Lib.hid hm1
  have HPP1 := Lib.hid hpp1
  clear hp1 hm1 hpp1 K1
  have hde := hde2 he
  clear hde1 hde2 he
  go_wp2_with fail
  go_quiet (fail)
  have hq1 := pw_below_drewN (Below.refl w1.heap.size w1) nq
  have HM1 := Lib.hid (HM1.out.past hq1)
  have HR1 := Lib.hid (show Own (w1.drewN nq) w.heap.size zeroV 26 from HR1.out)
  have P1 := Lib.hid (P1.out.drewN nq)
  have hT1 : w.heap.size < (w1.drewN nq).heap.size := hw1
  generalize w1.drewN nq = wq at HM1 HR1 P1 hT1 ⊢
  have hX := Own.new wq zeroV 26
  have t0 := hX.cell 0
  have t1 := hX.cell 1
  have t2 := hX.cell 2
  have t3 := hX.cell 3
  have tz := fun i => hX.fz i
  have K2 := fun o1 o2 => byteC g A c p1 s1 ((wq.alloc o1).alloc o2) (HM1.out.past (below_alloc (below_alloc (Below.refl _ _) _) _))
  rw [hs2] at K2
  have K2 := Lib.hid K2
  clear hX hq1 hw1 hs2 a0 a1 hd0
  go_wp2_with fail
  refine (K2.out _ _).mono ?_
  rintro e w2 ⟨rfl, hp2, p2, hpp2, hm2⟩
  have hT2 : wq.heap.size + 1 < w2.heap.size := by have := hp2.size; simp at this; omega
  have OT := Own.past' (Own.alloc (show Own (wq.alloc (.cells #[.int .i64 12, .string ⟨#[]⟩, .int .i64 0, .slice none 0 0] 26)) wq.heap.size #[.int .i64 12, .string ⟨#[]⟩, .int .i64 0, .slice none 0 0] 26 from Own.new _ _ _) _) hp2 (by omega)
  have ON := Own.past' (Own.new2 wq (.cells #[.int .i64 12, .string ⟨#[]⟩, .int .i64 0, .slice none 0 0] 26) mkNames 9) hp2 (by omega)
  have q2 : w2.cell? ⟨wq.heap.size + 1, j, none⟩ = some (.string nm2) := (ON.cell j).trans (by rw [name_at j hj, hnm2])
  have HR2 := Lib.hid (Own.past' (Own.alloc (Own.alloc (show Own wq w.heap.size zeroV 26 from HR1.out) _) _) hp2 (by omega))
  have P2 := Lib.hid ((((P1.out).alloc (.cells #[.int .i64 12, .string ⟨#[]⟩, .int .i64 0, .slice none 0 0] 26)).alloc (.cells mkNames 9)).trans hp2)
  have HPP2 := Lib.hid (hpp2.trans HPP1.out)
  have HM2 := Lib.hid hm2
  have hj0 : decide (0 ≤ (j : Int)) = true := by rw [decide_eq_true_eq]; omega
  have hj5 : decide ((j : Int) < 5) = true := by rw [decide_eq_true_eq]; omega
  have u0 := OT.cell 0
  have u1 := OT.cell 1
  have u2 := OT.cell 2
  have u3 := OT.cell 3
  have uz := fun i => OT.fz i
  have HOT := Lib.hid OT
  clear hp2 hm2 hpp2 ON OT t0 t1 t2 t3 tz K2
  have K3 := fun o => byteC g A c p2 s2 (w2.alloc o) (HM2.out.past (below_alloc (Below.refl _ _) o))
  rw [hs3] at K3
  have K3 := Lib.hid K3
  have hx3 := byteM_range s2
  rw [hs3] at hx3
  go_wp2_with fail
  refine (K3.out _).mono ?_
  rintro e w3 ⟨rfl, hp3, p3, hpp3, hm3⟩
  have hT3 : w2.heap.size < w3.heap.size := by have := hp3.size; simp at this; omega
  have OT := Own.past' (HOT.out.alloc (.cells mkOps 9)) hp3 (by omega)
  have ON := Own.past' (Own.new w2 mkOps 9) hp3 (by omega)
  have q3 : w3.cell? ⟨w2.heap.size, j3, none⟩ = some (.string nm3) := (ON.cell j3).trans (by rw [oper_at j3 hj3, hnm3])
  have hj30 : decide (0 ≤ (j3 : Int)) = true := by rw [decide_eq_true_eq]; omega
  have hj35 : decide ((j3 : Int) < 5) = true := by rw [decide_eq_true_eq]; omega
  have u1 := OT.cell 1
  have uz := fun i => OT.fz i
  have OT2 : Own (w3.setCell ⟨wq.heap.size, 1, none⟩ (.string nm3)) wq.heap.size #[.int .i64 12, .string nm3, .int .i64 0, .slice none 0 0] 26 := by simpa [Own] using blk_set OT 1 (.string nm3)
  have HPPL := Lib.hid (hpp3.trans HPP2.out)
  have HML := Lib.hid (far_set (u := .string nm3) (j := 1) (T := wq.heap.size) H0.out HPPL.out hm3 (by omega) (by omega))
  have HRL := Lib.hid (show Own (w3.setCell ⟨wq.heap.size, 1, none⟩ (.string nm3)) w.heap.size zeroV 26 from (Below.heap_setCell _ _ _ _ (by show w.heap.size ≠ wq.heap.size; omega)).trans (Own.past' (HR2.out.alloc _) hp3 (by omega)))
  have PL := Lib.hid (((P2.out.alloc (.cells mkOps 9)).trans hp3).new (a := ⟨wq.heap.size, 1, none⟩) (by show w.heap.size ≤ wq.heap.size; omega) (.string nm3))
  have HOL := Lib.hid OT2
  clear hp3 hm3 hpp3 OT OT2 u0 u2 u3 K3 q2 ON
  go_wp2_with fail
  generalize w3.setCell ⟨wq.heap.size, 1, none⟩ (.string nm3) = wL at HML HRL PL HOL ⊢
  have hTL : wq.heap.size < wL.heap.size := blk_lt HOL.out
  clear HM2 HR2 P2 HOT HPP2 uz
  try clear u0
  try clear u1
  try clear u2
  try clear u3
  try clear q2
  try clear q3
  go_loopg [8] q (fun gk v8 wr => ∃ (i : Nat) (ks : List Tm) (si pi : List UInt8) (v3 : Value), v8 = .int .i64 i ∧ i ≤ q ∧ gk = q - i ∧ Aside0 (ks.length = i ∧ kidsM (makeT d) q s3 = (ks ++ (kidsM (makeT d) (q - i) si).1, (kidsM (makeT d) (q - i) si).2)) ∧ Aside0 (pi ++ si = p ++ s) ∧ Aside0 (Mk g A c pi si wr) ∧ Aside0 (Own wr wq.heap.size #[.int .i64 12, .string nm3, .int .i64 0, v3] 26) ∧ Aside0 (Own wr w.heap.size zeroV 26) ∧ Aside0 (Past g w wr) ∧ Aside0 (Kd.N k26 26 wr w.heap.size (fun b => w.heap.size ≤ b ∧ b ≠ wq.heap.size ∧ b ≠ w.heap.size) v3 ks))
  case atStart => exact ⟨0, [], s3, _, .slice none 0 0, rfl, Nat.zero_le _, rfl, ⟨rfl, by simp⟩, ⟨HPPL.out⟩, ⟨HML.out⟩, ⟨HOL.out⟩, ⟨HRL.out⟩, ⟨PL.out⟩, ⟨Kd.N_nil _ _ _ _ _⟩⟩
  case round =>
    clear HPPL HML HOL HRL PL hTL
    obtain ⟨i, ks, si, pi, v3, rfl, hi, hgk, HK, HPP, HM, HO, HR, HP, HN⟩ := hrel
    have hTr : wq.heap.size < wr.heap.size := blk_lt HO.out
    have hA := below_alloc (Below.refl wr.heap.size wr) (.cells mkKids 3)
    have kc : (wr.alloc (.cells mkKids 3)).cell? ⟨wr.heap.size, 12, none⟩ = some (.int .i64 (q : Int)) := ((Own.new wr mkKids 3).cell 12).trans (by rw [many_at 12 (by omega) (by omega)]; exact congrArg (fun z => some (Value.int .i64 z)) hq)
    have kd0 : decide (0 ≤ 12) = true := by rw [decide_eq_true_eq]; omega
    have kd14 : decide (12 < 14) = true := by rw [decide_eq_true_eq]; omega
    by_cases hlt : i < q
    · have hdd : decide ((i : Int) < (q : Int)) = true := by rw [decide_eq_true_eq]; omega
      obtain ⟨wb, hwb⟩ : ∃ wb, wb = wr.alloc (.cells mkKids 3) := ⟨_, rfl⟩
      have hAb : Below wr.heap.size wr wb := by rw [hwb]; exact hA
      have OB := Lib.hid (show Own wb _ _ _ from blk_below HO.out hAb)
      clear hA
      go_wp2_with fail
      rw [← hwb]
      clear hwb kc
      have OBd : Own wb.drew wq.heap.size _ _ := OB.out
      refine start_ (n := 10) (S := fun w' => w'.cell? ⟨wq.heap.size, 3, none⟩ = some v3) (ds := [9]) #[false, false, false, false, false, false, false, false, false, false] (by kernel_rfl) rfl rfl (OBd.cell 3) (fun hHeld => ?_)
      have hD : Below wr.heap.size wr wb.drew := below_drew hAb
      generalize wb.drew = W1 at hD hHeld OBd ⊢
      refine pure_ (i := 0) (N := some 72) (v := ?_) (a' := ?_) #[true, false, false, false, false, false, false, false, false, false] rfl rfl (by kernel_rfl) (fun _ _ _ h => h) (Or.inl ⟨by rfl, ?_⟩) ?_ ?_
      rotate_left
      · intro w'
        go_simp
        with_reducible rfl
      rotate_left
      · simp only [Act.put, List.setIfInBounds_toArray, List.set_cons_zero, List.set_cons_succ]
        rfl
      refine pure_ (i := 2) (N := some 74) (v := ?_) (a' := ?_) #[true, false, true, false, false, false, false, false, false, false] rfl rfl (by kernel_rfl) (fun _ _ _ h => h) (Or.inl ⟨by rfl, ?_⟩) ?_ ?_
      rotate_left
      · intro w'
        go_simp
        with_reducible rfl
      rotate_left
      · simp only [Act.put, List.setIfInBounds_toArray, List.set_cons_zero, List.set_cons_succ]
        rfl
      refine pure_ (i := 3) (N := some 75) (v := ?_) (a' := ?_) #[true, false, true, true, false, false, false, false, false, false] rfl rfl (by kernel_rfl) (fun _ _ _ h => h) (Or.inl ⟨by rfl, ?_⟩) ?_ ?_
      rotate_left
      · intro w'
        go_simp
        with_reducible rfl
      rotate_left
      · simp only [Act.put, List.setIfInBounds_toArray, List.set_cons_zero, List.set_cons_succ]
        rfl
      refine take_ (i := 1) (N := some 73) (v := ?_) (a' := ?_) #[true, true, true, true, false, false, false, false, false, false] rfl rfl (by kernel_rfl) (fun _ _ _ h => h) (Or.inl ⟨by rfl, ?_⟩) hHeld ?_ ?_
      rotate_left
      · intro w' s0
        go_simp
        with_reducible rfl
      rotate_left
      · simp only [Act.put, List.setIfInBounds_toArray, List.set_cons_zero, List.set_cons_succ]
        rfl
      refine pure_ (i := 4) (N := some 76) (v := ?_) (a' := ?_) #[true, true, true, true, true, false, false, false, false, false] rfl rfl (by kernel_rfl) (fun _ _ _ h => h) (Or.inl ⟨by rfl, ?_⟩) ?_ ?_
      rotate_left
      · intro w'
        go_simp
        rw [show IntKind.i64.wrap (d : Int) = d by rw [i64_w, wrap_id (by omega) (by omega)]]
      rotate_left
      · simp only [Act.put, List.setIfInBounds_toArray, List.set_cons_zero, List.set_cons_succ]
        rfl
      refine one_ (i := 5) (N := some 77) #[true, true, true, true, true, true, false, false, false, false] rfl rfl (by kernel_rfl) (by decide) (fun K hK => ?_)
      refine goes_ Tryd.func11 (by kernel_rfl) rfl #[.pointer (some ⟨g, 0, none⟩), .int .i64 (d : Int)] (by rfl) rfl rfl (by (try simp only [List.map_toArray, List.map_cons, List.map_nil]); first | done | rfl) ?_
      refine (ih g A c pi si W1 (HM.out.past hD)).mono ?_
      rintro e w2 ⟨A3, c3, rfl, hl3, hF3, hp3, p3, hpp3, hm3⟩
      have O2 := Own.past' OBd hp3 (by omega)
      have P2 : Past g wr w2 := (Past.of_below hD).trans hp3
      have hs2 : wr.heap.size ≤ w2.heap.size := P2.size
      have hsW : wr.heap.size ≤ W1.heap.size := hD.size
      have hN2 := Kd.N_step HN.out (fun b hb hlt => P2.block b hlt (by have := hb.1; omega))
      have hlt3 := Kd.N_lt HN.out
      generalize htk : makeT d si = tk at *
      refine ⟨_, rfl, ?_⟩
      refine hK.out _ _ (O2.cell 3) (fun hHeld => ?_)
      clear hK K
      refine norm_ (a' := ?_) ?_ ?_
      rotate_left
      · show Act.put _ (some 77) _ = _
        simp only [Act.put, List.setIfInBounds_toArray, List.set_cons_zero, List.set_cons_succ]
        rfl
      refine one_ (i := 6) (N := some 78) #[true, true, true, true, true, true, true, false, false, false] rfl rfl (by kernel_rfl) (by decide) (fun K hK => ?_)
      refine value_ (w1 := ?_) (v := ?_) (by rfl) rfl ?_ ?_
      rotate_left 2
      · go_simp
        constructor
        · rfl
        · rfl
      refine hK.out _ _ ((O2.alloc _).cell 3) (fun hHeld => ?_)
      clear hK K
      refine norm_ (a' := ?_) ?_ ?_
      rotate_left
      · show Act.put _ (some 78) _ = _
        simp only [Act.put, List.setIfInBounds_toArray, List.set_cons_zero, List.set_cons_succ]
        rfl
      refine one_ (i := 7) (N := some 79) #[true, true, true, true, true, true, true, true, false, false] rfl rfl (by kernel_rfl) (by decide) (fun K hK => ?_)
      refine Kd.N_append_step k26 (w0 := w2) w.heap.size (by rfl) (.tmp 73) (.tmp 78) 24 26 (.agg zeroV) 56 rfl Tryd.underlying24 mkInfo rfl (by decide) (by omega) v3 ks tk.1 [.int .i64 tk.1.f0, .string tk.1.f1, .int .i64 tk.1.f2, .slice A3 tk.1.f3.length c3] (fun b => w.heap.size ≤ b ∧ b ≠ wq.heap.size ∧ b ≠ w.heap.size) (fun b => W1.heap.size ≤ b) rfl rfl (fun W2 hW => k26_mk W2 tk.1 hl3 (hF3 W2 hW)) (fun b hb => ⟨⟨by omega, by omega, by omega⟩, fun he => by have := hlt3 b he.symm; omega⟩) (fun b hb => ⟨by omega, by omega, by omega⟩) hN2 (Below.refl _ _) (by omega) (by have := HK.out.1; omega) ?_
      intro v1 w3 hN3 hb3 hg3 hat3
      obtain ⟨A5, c5, rfl⟩ := Kd.N_slice hN3
      obtain ⟨m5, hm5⟩ : ∃ m, (ks ++ [tk.1]).length = m := ⟨_, rfl⟩
      rw [hm5] at hN3 ⊢
      have O3 : Own w3 wq.heap.size _ _ := blk_grown O2 hg3 (Kd.N_away hN2 (fun b hb => hb.2.1))
      refine hK.out _ _ (O3.cell 3) (fun hHeld => ?_)
      clear hK K
      refine norm_ (a' := ?_) ?_ ?_
      rotate_left
      · show Act.put _ (some 79) _ = _
        simp only [Act.put, List.setIfInBounds_toArray, List.set_cons_zero, List.set_cons_succ]
        rfl
      refine pure_ (i := 8) (N := some 80) (v := ?_) (a' := ?_) #[true, true, true, true, true, true, true, true, true, false] rfl rfl (by kernel_rfl) (fun _ _ _ h => h) (Or.inl ⟨by rfl, ?_⟩) ?_ ?_
      rotate_left
      · intro w'
        go_simp
        with_reducible rfl
      rotate_left
      · simp only [Act.put, List.setIfInBounds_toArray, List.set_cons_zero, List.set_cons_succ]
        rfl
      have hs3 := O3.cell 3
      have hfs3 := O3.fz 3
      refine last_ (i := 9) (N := none) #[true, true, true, true, true, true, true, true, true, true] rfl rfl (by kernel_rfl) (by decide) (fun K hK => ?_)
      refine skip_ (w1 := ?_) (by rfl) rfl ?_ ?_
      rotate_left
      · go_simp
        rfl
      refine hK.out _ _ ?_
      clear hK K
      refine done_ (by kernel_rfl) ?_
      have hs23 : w2.heap.size ≤ w3.heap.size := hb3.size
      have hPw : Past g w (w3.setCell ⟨wq.heap.size, 3, none⟩ (.slice A5 m5 c5)) := (((HP.out.trans P2).belowN (hb3.mono (by omega)))).new (by show w.heap.size ≤ wq.heap.size; omega) _
      have HPPn := Aside0.mk (hpp3.trans HPP.out)
      have HMn := Aside0.mk (far_set (u := (.slice A5 m5 c5)) (j := 3) (T := wq.heap.size) H0.out HPPn.out (H0.out.old HPPn.out hm3 (hb3.mono (by omega))) (by omega) (by omega))
      have HOn := Aside0.mk (show Own (w3.setCell ⟨wq.heap.size, 3, none⟩ (.slice A5 m5 c5)) wq.heap.size #[.int .i64 12, .string nm3, .int .i64 0, (.slice A5 m5 c5)] 26 by simpa [Own] using blk_set O3 3 (.slice A5 m5 c5))
      have hR2 := Own.past' (show Own W1 w.heap.size zeroV 26 from blk_below HR.out hD) hp3 (by omega)
      have hR3 : Own w3 w.heap.size zeroV 26 := blk_grown hR2 hg3 (Kd.N_away hN2 (fun b hb => hb.2.2))
      have HRn := Aside0.mk (show Own (w3.setCell ⟨wq.heap.size, 3, none⟩ (.slice A5 m5 c5)) w.heap.size zeroV 26 from (Below.heap_setCell _ _ _ _ (by show w.heap.size ≠ wq.heap.size; omega)).trans hR3)
      have HPn := Aside0.mk hPw
      have HNn := Aside0.mk (Kd.N_far hN3 (p := ⟨wq.heap.size, 3, none⟩) (fun b hb => hb.2.1) (.slice A5 m5 c5))
      have hstep : kidsM (makeT d) (q - i) si = (tk.1 :: (kidsM (makeT d) (q - (i + 1)) tk.2).1, (kidsM (makeT d) (q - (i + 1)) tk.2).2) := by
        rw [show q - i = (q - (i + 1)) + 1 by omega, kidsM, htk]
      have HKn := Aside0.mk (show (ks ++ [tk.1]).length = i + 1 ∧ kidsM (makeT d) q s3 = ((ks ++ [tk.1]) ++ (kidsM (makeT d) (q - (i + 1)) tk.2).1, (kidsM (makeT d) (q - (i + 1)) tk.2).2) by
        refine ⟨by rw [List.length_append, HK.out.1]; rfl, ?_⟩
        rw [HK.out.2, hstep]; simp)
      clear hN3 hb3 hg3 hat3 O3 hs3 hfs3 hHeld O2 P2 hN2 hlt3 hF3 hp3 hm3 hpp3 hR2 hR3 hstep hPw hl3 hD OBd
      try clear hHeld
      go_wp2_with fail
      go_roundg (q - (i + 1))
      case measure => omega
      case rel => exact ⟨i + 1, ks ++ [tk.1], tk.2, p3, (.slice A5 m5 c5), by go_num, by omega, rfl, HKn, HPPn, HMn, HOn, HRn, HPn, HNn⟩
    · have hdd : decide ((i : Int) < (q : Int)) = false := by rw [decide_eq_false_iff_not]; omega
      have hiq : i = q := by omega
      have HK2 := Lib.hid HK.out
      obtain ⟨A3, c3, rfl⟩ := Kd.N_slice HN.out
      have OB : Own _ _ _ _ := blk_below HO.out hA
      have u0 := OB.cell 0
      have u1 := OB.cell 1
      have u2 := OB.cell 2
      have u3 := OB.cell 3
      have RB : Own _ _ _ _ := blk_below HR.out hA
      have r0 := RB.cell 0
      have r1 := RB.cell 1
      have r2 := RB.cell 2
      have r3 := RB.cell 3
      have rz := fun i => RB.fz i
      have HRB := Lib.hid RB
      have HPB := Lib.hid (HP.out.trans (Past.of_below hA))
      have HMB := Lib.hid (HM.out.past hA)
      have HNB := Lib.hid (Kd.N_below HN.out hA)
      have HIQ := Lib.hid hiq
      have hsz : w.heap.size ≤ wr.heap.size := by omega
      clear hA OB RB hiq
      go_wp2_with fail
      refine ret4 rfl rfl (Own.four HRB.out) ?_
      have hb4 := fun a b c d => four_set (w3size := 0) (a := a) (b := b) (c := c) (d := d) (Below.refl w.heap.size (wr.alloc (.cells mkKids 3)))
      have hi := HIQ.out
      subst hi
      have hk := HK2.out.2
      rw [Nat.sub_self, kidsM, List.append_nil] at hk
      rw [hk]
      have hN4 := Kd.N_far (Kd.N_far (Kd.N_far (Kd.N_far HNB.out (p := ⟨w.heap.size, 0, none⟩) (fun b hb => hb.2.2) (.int .i64 12)) (p := ⟨w.heap.size, 1, none⟩) (fun b hb => hb.2.2) (.string nm3)) (p := ⟨w.heap.size, 2, none⟩) (fun b hb => hb.2.2) (.int .i64 0)) (p := ⟨w.heap.size, 3, none⟩) (fun b hb => hb.2.2) (.slice A3 ks.length c3)
      exact ⟨A3, c3, rfl, (Kd.N_reads' hN4).2.1, Kd.F_mono (Kd.N_F hN4) (fun b hb => hb.1), HPB.out.belowN (hb4 _ _ _ _), _, HPP.out, H0.out.old HPP.out HMB.out (hb4 _ _ _ _)⟩
set_option maxRecDepth 100000 in
set_option maxHeartbeats 8000000 in
theorem term_bindC (d : Nat) (hd : d ≤ 100) (ih : MadeH d) (g : Nat) (A : Option Addr) (c : Nat) (p s : List UInt8) (w : World) (h : Mk g A c p s w) (x : Int) (s1 : List UInt8) (hs : byteM s = (x, s1)) (x2 : Int) (s2 : List UInt8) (hs2 : byteM s1 = (x2, s2)) (he : s1 ≠ []) (kk : Nat) (hkk : 1 + x % 13 = (kk : Int)) (hk1 : 1 ≤ kk) (hk13 : kk ≤ 13) (e1 : ((kk : Int) == 1) = false) (e12 : ((kk : Int) == 12) = false) (e2 : ((kk : Int) == 2) = false) (eb : binderK (kk : Int) = true) (j : Nat) (hj : j < 5) (hq2 : x2 % 5 = (j : Int)) (nm2 : ByteArray) (hnm2 : madeNames.getD j noName = nm2) (q : Nat) (hq : kidsOf (kk : Int) = (q : Int)) (hq4 : q ≤ 3) :
    Calls Tryd.prog 11 #[.pointer (some ⟨g, 0, none⟩), .int .i64 ((d : Int) + 1)] w (MadeR g A c p s w (⟨(kk : Int), nm2, 0, (kidsM (makeT d) q s2).1⟩, (kidsM (makeT d) q s2).2)) := by
  have hd0 : decide ((d : Int) + 1 ≤ 0) = false := by rw [decide_eq_false_iff_not]; omega
  have hx := byteM_range s
  rw [hs] at hx
  have hx2 := byteM_range s1
  rw [hs2] at hx2
  have hb0 := below_alloc (Below.refl w.heap.size w) (.cells zeroV 26)
  have hg : g < w.heap.size := blk_lt h.blk
  have K1 := byteC g A c p s _ (h.past hb0)
  rw [hs] at K1
  have K1 := Lib.hid K1
  have HR0 := Lib.hid (Own.new w zeroV 26)
  have H0 := Lib.hid h
  have HP0 := Lib.hid (Past.of_below (g := g) hb0)
  clear h hb0 hs
  go_enter Tryd.func11, Tryd.ntmps11
  go_wp2_with fail
  refine K1.out.mono ?_
  rintro e w1 ⟨rfl, hp1, p1, hpp1, hm1⟩
  obtain ⟨ln, ix, a0, a1, hde1, hde2⟩ := hm1.at
  have HR1 := Lib.hid (Own.past' HR0.out hp1 (by omega))
  have P1 := Lib.hid (HP0.out.trans hp1)
  have hw1 : w.heap.size < w1.heap.size := by have := hp1.size; simp at this; omega
  have HM1 := Lib.hid hm1
  have HPP1 := Lib.hid hpp1
  clear hp1 hm1 hpp1 K1
  have hde := hde2 he
  clear hde1 hde2 he
  go_wp2_with fail
  go_quiet (fail)
  have hq1 := pw_below_drewN (Below.refl w1.heap.size w1) nq
  have HM1 := Lib.hid (HM1.out.past hq1)
  have HR1 := Lib.hid (show Own (w1.drewN nq) w.heap.size zeroV 26 from HR1.out)
  have P1 := Lib.hid (P1.out.drewN nq)
  have hT1 : w.heap.size < (w1.drewN nq).heap.size := hw1
  generalize w1.drewN nq = wq at HM1 HR1 P1 hT1 ⊢
  have hX := Own.new wq zeroV 26
  have t0 := hX.cell 0
  have t1 := hX.cell 1
  have t2 := hX.cell 2
  have t3 := hX.cell 3
  have tz := fun i => hX.fz i
  have K2 := fun o1 o2 => byteC g A c p1 s1 ((wq.alloc o1).alloc o2) (HM1.out.past (below_alloc (below_alloc (Below.refl _ _) _) _))
  rw [hs2] at K2
  have K2 := Lib.hid K2
  clear hX hq1 hw1 hs2 a0 a1 hd0
  go_wp2_with fail
  refine (K2.out _ _).mono ?_
  rintro e w2 ⟨rfl, hp2, p2, hpp2, hm2⟩
  have hT2 : wq.heap.size + 1 < w2.heap.size := by have := hp2.size; simp at this; omega
  have OT := Own.past' (Own.alloc (show Own (wq.alloc (.cells #[.int .i64 (kk : Int), .string ⟨#[]⟩, .int .i64 0, .slice none 0 0] 26)) wq.heap.size #[.int .i64 (kk : Int), .string ⟨#[]⟩, .int .i64 0, .slice none 0 0] 26 from Own.new _ _ _) _) hp2 (by omega)
  have ON := Own.past' (Own.new2 wq (.cells #[.int .i64 (kk : Int), .string ⟨#[]⟩, .int .i64 0, .slice none 0 0] 26) mkNames 9) hp2 (by omega)
  have q2 : w2.cell? ⟨wq.heap.size + 1, j, none⟩ = some (.string nm2) := (ON.cell j).trans (by rw [name_at j hj, hnm2])
  have HR2 := Lib.hid (Own.past' (Own.alloc (Own.alloc (show Own wq w.heap.size zeroV 26 from HR1.out) _) _) hp2 (by omega))
  have P2 := Lib.hid ((((P1.out).alloc (.cells #[.int .i64 (kk : Int), .string ⟨#[]⟩, .int .i64 0, .slice none 0 0] 26)).alloc (.cells mkNames 9)).trans hp2)
  have HPP2 := Lib.hid (hpp2.trans HPP1.out)
  have HM2 := Lib.hid hm2
  have hj0 : decide (0 ≤ (j : Int)) = true := by rw [decide_eq_true_eq]; omega
  have hj5 : decide ((j : Int) < 5) = true := by rw [decide_eq_true_eq]; omega
  have u0 := OT.cell 0
  have u1 := OT.cell 1
  have u2 := OT.cell 2
  have u3 := OT.cell 3
  have uz := fun i => OT.fz i
  have HOT := Lib.hid OT
  clear hp2 hm2 hpp2 ON OT t0 t1 t2 t3 tz K2
  have KB := Lib.hid (term_Binder.calls (kk : Int) ⟨#[]⟩ 0 none 0 [] true w2 (C_nil w2) (Nat.le_refl _) (by rw [binder_f, eb]))
  go_wp2_with fail
  refine KB.out.mono ?_
  rintro e w3 ⟨rfl, hb3⟩
  have OT : Own _ _ _ _ := blk_below HOT.out hb3
  have HM2 := Lib.hid (HM2.out.past hb3)
  have HR2 := Lib.hid (show Own _ _ _ _ from blk_below HR2.out hb3)
  have P2 := Lib.hid (P2.out.trans (Past.of_below hb3))
  have u1 := OT.cell 1
  have uz := fun i => OT.fz i
  clear hb3 u0 u2 u3
  have OT2 : Own (w3.setCell ⟨wq.heap.size, 1, none⟩ (.string nm2)) wq.heap.size #[.int .i64 (kk : Int), .string nm2, .int .i64 0, .slice none 0 0] 26 := by simpa [Own] using blk_set OT 1 (.string nm2)
  have HPPL := Lib.hid HPP2.out
  have hTL0 : wq.heap.size < w3.heap.size := blk_lt OT
  have HML := Lib.hid (far_set (u := .string nm2) (j := 1) (T := wq.heap.size) H0.out HPPL.out HM2.out (by omega) (by omega))
  have HRL := Lib.hid (show Own (w3.setCell ⟨wq.heap.size, 1, none⟩ (.string nm2)) w.heap.size zeroV 26 from (Below.heap_setCell _ _ _ _ (by show w.heap.size ≠ wq.heap.size; omega)).trans HR2.out)
  have PL := Lib.hid (P2.out.new (a := ⟨wq.heap.size, 1, none⟩) (by show w.heap.size ≤ wq.heap.size; omega) (.string nm2))
  have HOL := Lib.hid OT2
  clear OT OT2
  go_wp2_with fail
  generalize w3.setCell ⟨wq.heap.size, 1, none⟩ (.string nm2) = wL at HML HRL PL HOL ⊢
  have hTL : wq.heap.size < wL.heap.size := blk_lt HOL.out
  clear HM2 HR2 P2 HOT HPP2 uz e1 e12 e2 eb KB
  try clear u0
  try clear u1
  try clear u2
  try clear u3
  try clear q2
  try clear q3
  go_loopg [8] q (fun gk v8 wr => ∃ (i : Nat) (ks : List Tm) (si pi : List UInt8) (v3 : Value), v8 = .int .i64 i ∧ i ≤ q ∧ gk = q - i ∧ Aside0 (ks.length = i ∧ kidsM (makeT d) q s2 = (ks ++ (kidsM (makeT d) (q - i) si).1, (kidsM (makeT d) (q - i) si).2)) ∧ Aside0 (pi ++ si = p ++ s) ∧ Aside0 (Mk g A c pi si wr) ∧ Aside0 (Own wr wq.heap.size #[.int .i64 (kk : Int), .string nm2, .int .i64 0, v3] 26) ∧ Aside0 (Own wr w.heap.size zeroV 26) ∧ Aside0 (Past g w wr) ∧ Aside0 (Kd.N k26 26 wr w.heap.size (fun b => w.heap.size ≤ b ∧ b ≠ wq.heap.size ∧ b ≠ w.heap.size) v3 ks))
  case atStart => exact ⟨0, [], s2, _, .slice none 0 0, rfl, Nat.zero_le _, rfl, ⟨rfl, by simp⟩, ⟨HPPL.out⟩, ⟨HML.out⟩, ⟨HOL.out⟩, ⟨HRL.out⟩, ⟨PL.out⟩, ⟨Kd.N_nil _ _ _ _ _⟩⟩
  case round =>
    clear HPPL HML HOL HRL PL hTL
    obtain ⟨i, ks, si, pi, v3, rfl, hi, hgk, HK, HPP, HM, HO, HR, HP, HN⟩ := hrel
    have hTr : wq.heap.size < wr.heap.size := blk_lt HO.out
    have hA := below_alloc (Below.refl wr.heap.size wr) (.cells mkKids 3)
    have kc : (wr.alloc (.cells mkKids 3)).cell? ⟨wr.heap.size, kk, none⟩ = some (.int .i64 (q : Int)) := ((Own.new wr mkKids 3).cell kk).trans (by rw [many_at kk (by omega) (by omega)]; exact congrArg (fun z => some (Value.int .i64 z)) hq)
    have kd0 : decide (0 ≤ (kk : Int)) = true := by rw [decide_eq_true_eq]; omega
    have kd14 : decide ((kk : Int) < 14) = true := by rw [decide_eq_true_eq]; omega
    by_cases hlt : i < q
    · have hdd : decide ((i : Int) < (q : Int)) = true := by rw [decide_eq_true_eq]; omega
      obtain ⟨wb, hwb⟩ : ∃ wb, wb = wr.alloc (.cells mkKids 3) := ⟨_, rfl⟩
      have hAb : Below wr.heap.size wr wb := by rw [hwb]; exact hA
      have OB := Lib.hid (show Own wb _ _ _ from blk_below HO.out hAb)
      clear hA
      go_wp2_with fail
      rw [← hwb]
      clear hwb kc
      have OBd : Own wb.drew wq.heap.size _ _ := OB.out
      refine start_ (n := 10) (S := fun w' => w'.cell? ⟨wq.heap.size, 3, none⟩ = some v3) (ds := [9]) #[false, false, false, false, false, false, false, false, false, false] (by kernel_rfl) rfl rfl (OBd.cell 3) (fun hHeld => ?_)
      have hD : Below wr.heap.size wr wb.drew := below_drew hAb
      generalize wb.drew = W1 at hD hHeld OBd ⊢
      refine pure_ (i := 0) (N := some 72) (v := ?_) (a' := ?_) #[true, false, false, false, false, false, false, false, false, false] rfl rfl (by kernel_rfl) (fun _ _ _ h => h) (Or.inl ⟨by rfl, ?_⟩) ?_ ?_
      rotate_left
      · intro w'
        go_simp
        with_reducible rfl
      rotate_left
      · simp only [Act.put, List.setIfInBounds_toArray, List.set_cons_zero, List.set_cons_succ]
        rfl
      refine pure_ (i := 2) (N := some 74) (v := ?_) (a' := ?_) #[true, false, true, false, false, false, false, false, false, false] rfl rfl (by kernel_rfl) (fun _ _ _ h => h) (Or.inl ⟨by rfl, ?_⟩) ?_ ?_
      rotate_left
      · intro w'
        go_simp
        with_reducible rfl
      rotate_left
      · simp only [Act.put, List.setIfInBounds_toArray, List.set_cons_zero, List.set_cons_succ]
        rfl
      refine pure_ (i := 3) (N := some 75) (v := ?_) (a' := ?_) #[true, false, true, true, false, false, false, false, false, false] rfl rfl (by kernel_rfl) (fun _ _ _ h => h) (Or.inl ⟨by rfl, ?_⟩) ?_ ?_
      rotate_left
      · intro w'
        go_simp
        with_reducible rfl
      rotate_left
      · simp only [Act.put, List.setIfInBounds_toArray, List.set_cons_zero, List.set_cons_succ]
        rfl
      refine take_ (i := 1) (N := some 73) (v := ?_) (a' := ?_) #[true, true, true, true, false, false, false, false, false, false] rfl rfl (by kernel_rfl) (fun _ _ _ h => h) (Or.inl ⟨by rfl, ?_⟩) hHeld ?_ ?_
      rotate_left
      · intro w' s0
        go_simp
        with_reducible rfl
      rotate_left
      · simp only [Act.put, List.setIfInBounds_toArray, List.set_cons_zero, List.set_cons_succ]
        rfl
      refine pure_ (i := 4) (N := some 76) (v := ?_) (a' := ?_) #[true, true, true, true, true, false, false, false, false, false] rfl rfl (by kernel_rfl) (fun _ _ _ h => h) (Or.inl ⟨by rfl, ?_⟩) ?_ ?_
      rotate_left
      · intro w'
        go_simp
        rw [show IntKind.i64.wrap (d : Int) = d by rw [i64_w, wrap_id (by omega) (by omega)]]
      rotate_left
      · simp only [Act.put, List.setIfInBounds_toArray, List.set_cons_zero, List.set_cons_succ]
        rfl
      refine one_ (i := 5) (N := some 77) #[true, true, true, true, true, true, false, false, false, false] rfl rfl (by kernel_rfl) (by decide) (fun K hK => ?_)
      refine goes_ Tryd.func11 (by kernel_rfl) rfl #[.pointer (some ⟨g, 0, none⟩), .int .i64 (d : Int)] (by rfl) rfl rfl (by (try simp only [List.map_toArray, List.map_cons, List.map_nil]); first | done | rfl) ?_
      refine (ih g A c pi si W1 (HM.out.past hD)).mono ?_
      rintro e w2 ⟨A3, c3, rfl, hl3, hF3, hp3, p3, hpp3, hm3⟩
      have O2 := Own.past' OBd hp3 (by omega)
      have P2 : Past g wr w2 := (Past.of_below hD).trans hp3
      have hs2 : wr.heap.size ≤ w2.heap.size := P2.size
      have hsW : wr.heap.size ≤ W1.heap.size := hD.size
      have hN2 := Kd.N_step HN.out (fun b hb hlt => P2.block b hlt (by have := hb.1; omega))
      have hlt3 := Kd.N_lt HN.out
      generalize htk : makeT d si = tk at *
      refine ⟨_, rfl, ?_⟩
      refine hK.out _ _ (O2.cell 3) (fun hHeld => ?_)
      clear hK K
      refine norm_ (a' := ?_) ?_ ?_
      rotate_left
      · show Act.put _ (some 77) _ = _
        simp only [Act.put, List.setIfInBounds_toArray, List.set_cons_zero, List.set_cons_succ]
        rfl
      refine one_ (i := 6) (N := some 78) #[true, true, true, true, true, true, true, false, false, false] rfl rfl (by kernel_rfl) (by decide) (fun K hK => ?_)
      refine value_ (w1 := ?_) (v := ?_) (by rfl) rfl ?_ ?_
      rotate_left 2
      · go_simp
        constructor
        · rfl
        · rfl
      refine hK.out _ _ ((O2.alloc _).cell 3) (fun hHeld => ?_)
      clear hK K
      refine norm_ (a' := ?_) ?_ ?_
      rotate_left
      · show Act.put _ (some 78) _ = _
        simp only [Act.put, List.setIfInBounds_toArray, List.set_cons_zero, List.set_cons_succ]
        rfl
      refine one_ (i := 7) (N := some 79) #[true, true, true, true, true, true, true, true, false, false] rfl rfl (by kernel_rfl) (by decide) (fun K hK => ?_)
      refine Kd.N_append_step k26 (w0 := w2) w.heap.size (by rfl) (.tmp 73) (.tmp 78) 24 26 (.agg zeroV) 56 rfl Tryd.underlying24 mkInfo rfl (by decide) (by omega) v3 ks tk.1 [.int .i64 tk.1.f0, .string tk.1.f1, .int .i64 tk.1.f2, .slice A3 tk.1.f3.length c3] (fun b => w.heap.size ≤ b ∧ b ≠ wq.heap.size ∧ b ≠ w.heap.size) (fun b => W1.heap.size ≤ b) rfl rfl (fun W2 hW => k26_mk W2 tk.1 hl3 (hF3 W2 hW)) (fun b hb => ⟨⟨by omega, by omega, by omega⟩, fun he => by have := hlt3 b he.symm; omega⟩) (fun b hb => ⟨by omega, by omega, by omega⟩) hN2 (Below.refl _ _) (by omega) (by have := HK.out.1; omega) ?_
      intro v1 w3 hN3 hb3 hg3 hat3
      obtain ⟨A5, c5, rfl⟩ := Kd.N_slice hN3
      obtain ⟨m5, hm5⟩ : ∃ m, (ks ++ [tk.1]).length = m := ⟨_, rfl⟩
      rw [hm5] at hN3 ⊢
      have O3 : Own w3 wq.heap.size _ _ := blk_grown O2 hg3 (Kd.N_away hN2 (fun b hb => hb.2.1))
      refine hK.out _ _ (O3.cell 3) (fun hHeld => ?_)
      clear hK K
      refine norm_ (a' := ?_) ?_ ?_
      rotate_left
      · show Act.put _ (some 79) _ = _
        simp only [Act.put, List.setIfInBounds_toArray, List.set_cons_zero, List.set_cons_succ]
        rfl
      refine pure_ (i := 8) (N := some 80) (v := ?_) (a' := ?_) #[true, true, true, true, true, true, true, true, true, false] rfl rfl (by kernel_rfl) (fun _ _ _ h => h) (Or.inl ⟨by rfl, ?_⟩) ?_ ?_
      rotate_left
      · intro w'
        go_simp
        with_reducible rfl
      rotate_left
      · simp only [Act.put, List.setIfInBounds_toArray, List.set_cons_zero, List.set_cons_succ]
        rfl
      have hs3 := O3.cell 3
      have hfs3 := O3.fz 3
      refine last_ (i := 9) (N := none) #[true, true, true, true, true, true, true, true, true, true] rfl rfl (by kernel_rfl) (by decide) (fun K hK => ?_)
      refine skip_ (w1 := ?_) (by rfl) rfl ?_ ?_
      rotate_left
      · go_simp
        rfl
      refine hK.out _ _ ?_
      clear hK K
      refine done_ (by kernel_rfl) ?_
      have hs23 : w2.heap.size ≤ w3.heap.size := hb3.size
      have hPw : Past g w (w3.setCell ⟨wq.heap.size, 3, none⟩ (.slice A5 m5 c5)) := (((HP.out.trans P2).belowN (hb3.mono (by omega)))).new (by show w.heap.size ≤ wq.heap.size; omega) _
      have HPPn := Aside0.mk (hpp3.trans HPP.out)
      have HMn := Aside0.mk (far_set (u := (.slice A5 m5 c5)) (j := 3) (T := wq.heap.size) H0.out HPPn.out (H0.out.old HPPn.out hm3 (hb3.mono (by omega))) (by omega) (by omega))
      have HOn := Aside0.mk (show Own (w3.setCell ⟨wq.heap.size, 3, none⟩ (.slice A5 m5 c5)) wq.heap.size #[.int .i64 (kk : Int), .string nm2, .int .i64 0, (.slice A5 m5 c5)] 26 by simpa [Own] using blk_set O3 3 (.slice A5 m5 c5))
      have hR2 := Own.past' (show Own W1 w.heap.size zeroV 26 from blk_below HR.out hD) hp3 (by omega)
      have hR3 : Own w3 w.heap.size zeroV 26 := blk_grown hR2 hg3 (Kd.N_away hN2 (fun b hb => hb.2.2))
      have HRn := Aside0.mk (show Own (w3.setCell ⟨wq.heap.size, 3, none⟩ (.slice A5 m5 c5)) w.heap.size zeroV 26 from (Below.heap_setCell _ _ _ _ (by show w.heap.size ≠ wq.heap.size; omega)).trans hR3)
      have HPn := Aside0.mk hPw
      have HNn := Aside0.mk (Kd.N_far hN3 (p := ⟨wq.heap.size, 3, none⟩) (fun b hb => hb.2.1) (.slice A5 m5 c5))
      have hstep : kidsM (makeT d) (q - i) si = (tk.1 :: (kidsM (makeT d) (q - (i + 1)) tk.2).1, (kidsM (makeT d) (q - (i + 1)) tk.2).2) := by
        rw [show q - i = (q - (i + 1)) + 1 by omega, kidsM, htk]
      have HKn := Aside0.mk (show (ks ++ [tk.1]).length = i + 1 ∧ kidsM (makeT d) q s2 = ((ks ++ [tk.1]) ++ (kidsM (makeT d) (q - (i + 1)) tk.2).1, (kidsM (makeT d) (q - (i + 1)) tk.2).2) by
        refine ⟨by rw [List.length_append, HK.out.1]; rfl, ?_⟩
        rw [HK.out.2, hstep]; simp)
      clear hN3 hb3 hg3 hat3 O3 hs3 hfs3 hHeld O2 P2 hN2 hlt3 hF3 hp3 hm3 hpp3 hR2 hR3 hstep hPw hl3 hD OBd
      try clear hHeld
      go_wp2_with fail
      go_roundg (q - (i + 1))
      case measure => omega
      case rel => exact ⟨i + 1, ks ++ [tk.1], tk.2, p3, (.slice A5 m5 c5), by go_num, by omega, rfl, HKn, HPPn, HMn, HOn, HRn, HPn, HNn⟩
    · have hdd : decide ((i : Int) < (q : Int)) = false := by rw [decide_eq_false_iff_not]; omega
      have hiq : i = q := by omega
      have HK2 := Lib.hid HK.out
      obtain ⟨A3, c3, rfl⟩ := Kd.N_slice HN.out
      have OB : Own _ _ _ _ := blk_below HO.out hA
      have u0 := OB.cell 0
      have u1 := OB.cell 1
      have u2 := OB.cell 2
      have u3 := OB.cell 3
      have RB : Own _ _ _ _ := blk_below HR.out hA
      have r0 := RB.cell 0
      have r1 := RB.cell 1
      have r2 := RB.cell 2
      have r3 := RB.cell 3
      have rz := fun i => RB.fz i
      have HRB := Lib.hid RB
      have HPB := Lib.hid (HP.out.trans (Past.of_below hA))
      have HMB := Lib.hid (HM.out.past hA)
      have HNB := Lib.hid (Kd.N_below HN.out hA)
      have HIQ := Lib.hid hiq
      have hsz : w.heap.size ≤ wr.heap.size := by omega
      clear hA OB RB hiq
      go_wp2_with fail
      refine ret4 rfl rfl (Own.four HRB.out) ?_
      have hb4 := fun a b c d => four_set (w3size := 0) (a := a) (b := b) (c := c) (d := d) (Below.refl w.heap.size (wr.alloc (.cells mkKids 3)))
      have hi := HIQ.out
      subst hi
      have hk := HK2.out.2
      rw [Nat.sub_self, kidsM, List.append_nil] at hk
      rw [hk]
      have hN4 := Kd.N_far (Kd.N_far (Kd.N_far (Kd.N_far HNB.out (p := ⟨w.heap.size, 0, none⟩) (fun b hb => hb.2.2) (.int .i64 (kk : Int))) (p := ⟨w.heap.size, 1, none⟩) (fun b hb => hb.2.2) (.string nm2)) (p := ⟨w.heap.size, 2, none⟩) (fun b hb => hb.2.2) (.int .i64 0)) (p := ⟨w.heap.size, 3, none⟩) (fun b hb => hb.2.2) (.slice A3 ks.length c3)
      exact ⟨A3, c3, rfl, (Kd.N_reads' hN4).2.1, Kd.F_mono (Kd.N_F hN4) (fun b hb => hb.1), HPB.out.belowN (hb4 _ _ _ _), _, HPP.out, H0.out.old HPP.out HMB.out (hb4 _ _ _ _)⟩
set_option maxRecDepth 100000 in
set_option maxHeartbeats 8000000 in
theorem term_plainC (d : Nat) (hd : d ≤ 100) (ih : MadeH d) (g : Nat) (A : Option Addr) (c : Nat) (p s : List UInt8) (w : World) (h : Mk g A c p s w) (x : Int) (s1 : List UInt8) (hs : byteM s = (x, s1)) (x2 : Int) (s2 : List UInt8) (hs2 : byteM s1 = (x2, s2)) (he : s1 ≠ []) (kk : Nat) (hkk : 1 + x % 13 = (kk : Int)) (hk1 : 1 ≤ kk) (hk13 : kk ≤ 13) (e1 : ((kk : Int) == 1) = false) (e12 : ((kk : Int) == 12) = false) (e2 : ((kk : Int) == 2) = false) (eb : binderK (kk : Int) = false) (j : Nat) (hj : j < 5) (hq2 : x2 % 5 = (j : Int)) (nm2 : ByteArray) (hnm2 : madeNames.getD j noName = nm2) (q : Nat) (hq : kidsOf (kk : Int) = (q : Int)) (hq4 : q ≤ 3) :
    Calls Tryd.prog 11 #[.pointer (some ⟨g, 0, none⟩), .int .i64 ((d : Int) + 1)] w (MadeR g A c p s w (⟨(kk : Int), ⟨#[]⟩, 0, (kidsM (makeT d) q s2).1⟩, (kidsM (makeT d) q s2).2)) := by
  have hd0 : decide ((d : Int) + 1 ≤ 0) = false := by rw [decide_eq_false_iff_not]; omega
  have hx := byteM_range s
  rw [hs] at hx
  have hx2 := byteM_range s1
  rw [hs2] at hx2
  have hb0 := below_alloc (Below.refl w.heap.size w) (.cells zeroV 26)
  have hg : g < w.heap.size := blk_lt h.blk
  have K1 := byteC g A c p s _ (h.past hb0)
  rw [hs] at K1
  have K1 := Lib.hid K1
  have HR0 := Lib.hid (Own.new w zeroV 26)
  have H0 := Lib.hid h
  have HP0 := Lib.hid (Past.of_below (g := g) hb0)
  clear h hb0 hs
  go_enter Tryd.func11, Tryd.ntmps11
  go_wp2_with fail
  refine K1.out.mono ?_
  rintro e w1 ⟨rfl, hp1, p1, hpp1, hm1⟩
  obtain ⟨ln, ix, a0, a1, hde1, hde2⟩ := hm1.at
  have HR1 := Lib.hid (Own.past' HR0.out hp1 (by omega))
  have P1 := Lib.hid (HP0.out.trans hp1)
  have hw1 : w.heap.size < w1.heap.size := by have := hp1.size; simp at this; omega
  have HM1 := Lib.hid hm1
  have HPP1 := Lib.hid hpp1
  clear hp1 hm1 hpp1 K1
  have hde := hde2 he
  clear hde1 hde2 he
  go_wp2_with fail
  go_quiet (fail)
  have hq1 := pw_below_drewN (Below.refl w1.heap.size w1) nq
  have HM1 := Lib.hid (HM1.out.past hq1)
  have HR1 := Lib.hid (show Own (w1.drewN nq) w.heap.size zeroV 26 from HR1.out)
  have P1 := Lib.hid (P1.out.drewN nq)
  have hT1 : w.heap.size < (w1.drewN nq).heap.size := hw1
  generalize w1.drewN nq = wq at HM1 HR1 P1 hT1 ⊢
  have hX := Own.new wq zeroV 26
  have t0 := hX.cell 0
  have t1 := hX.cell 1
  have t2 := hX.cell 2
  have t3 := hX.cell 3
  have tz := fun i => hX.fz i
  have K2 := fun o1 o2 => byteC g A c p1 s1 ((wq.alloc o1).alloc o2) (HM1.out.past (below_alloc (below_alloc (Below.refl _ _) _) _))
  rw [hs2] at K2
  have K2 := Lib.hid K2
  clear hX hq1 hw1 hs2 a0 a1 hd0
  go_wp2_with fail
  refine (K2.out _ _).mono ?_
  rintro e w2 ⟨rfl, hp2, p2, hpp2, hm2⟩
  have hT2 : wq.heap.size + 1 < w2.heap.size := by have := hp2.size; simp at this; omega
  have OT := Own.past' (Own.alloc (show Own (wq.alloc (.cells #[.int .i64 (kk : Int), .string ⟨#[]⟩, .int .i64 0, .slice none 0 0] 26)) wq.heap.size #[.int .i64 (kk : Int), .string ⟨#[]⟩, .int .i64 0, .slice none 0 0] 26 from Own.new _ _ _) _) hp2 (by omega)
  have ON := Own.past' (Own.new2 wq (.cells #[.int .i64 (kk : Int), .string ⟨#[]⟩, .int .i64 0, .slice none 0 0] 26) mkNames 9) hp2 (by omega)
  have q2 : w2.cell? ⟨wq.heap.size + 1, j, none⟩ = some (.string nm2) := (ON.cell j).trans (by rw [name_at j hj, hnm2])
  have HR2 := Lib.hid (Own.past' (Own.alloc (Own.alloc (show Own wq w.heap.size zeroV 26 from HR1.out) _) _) hp2 (by omega))
  have P2 := Lib.hid ((((P1.out).alloc (.cells #[.int .i64 (kk : Int), .string ⟨#[]⟩, .int .i64 0, .slice none 0 0] 26)).alloc (.cells mkNames 9)).trans hp2)
  have HPP2 := Lib.hid (hpp2.trans HPP1.out)
  have HM2 := Lib.hid hm2
  have hj0 : decide (0 ≤ (j : Int)) = true := by rw [decide_eq_true_eq]; omega
  have hj5 : decide ((j : Int) < 5) = true := by rw [decide_eq_true_eq]; omega
  have u0 := OT.cell 0
  have u1 := OT.cell 1
  have u2 := OT.cell 2
  have u3 := OT.cell 3
  have uz := fun i => OT.fz i
  have HOT := Lib.hid OT
  clear hp2 hm2 hpp2 ON OT t0 t1 t2 t3 tz K2
  have KB := Lib.hid (term_Binder.calls (kk : Int) ⟨#[]⟩ 0 none 0 [] false w2 (C_nil w2) (Nat.le_refl _) (by rw [binder_f, eb]))
  go_wp2_with fail
  refine KB.out.mono ?_
  rintro e wL ⟨rfl, hb3⟩
  have HOL := Lib.hid (show Own _ _ _ _ from blk_below HOT.out hb3)
  have HPPL := Lib.hid HPP2.out
  have HML := Lib.hid (HM2.out.past hb3)
  have HRL := Lib.hid (show Own _ _ _ _ from blk_below HR2.out hb3)
  have PL := Lib.hid (P2.out.trans (Past.of_below hb3))
  have hTL : wq.heap.size < wL.heap.size := blk_lt HOL.out
  clear hb3 u0 u1 u2 u3
  go_wp2_with fail
  clear HM2 HR2 P2 HOT HPP2 uz e1 e12 e2 eb KB
  try clear u0
  try clear u1
  try clear u2
  try clear u3
  try clear q2
  try clear q3
  go_loopg [8] q (fun gk v8 wr => ∃ (i : Nat) (ks : List Tm) (si pi : List UInt8) (v3 : Value), v8 = .int .i64 i ∧ i ≤ q ∧ gk = q - i ∧ Aside0 (ks.length = i ∧ kidsM (makeT d) q s2 = (ks ++ (kidsM (makeT d) (q - i) si).1, (kidsM (makeT d) (q - i) si).2)) ∧ Aside0 (pi ++ si = p ++ s) ∧ Aside0 (Mk g A c pi si wr) ∧ Aside0 (Own wr wq.heap.size #[.int .i64 (kk : Int), .string ⟨#[]⟩, .int .i64 0, v3] 26) ∧ Aside0 (Own wr w.heap.size zeroV 26) ∧ Aside0 (Past g w wr) ∧ Aside0 (Kd.N k26 26 wr w.heap.size (fun b => w.heap.size ≤ b ∧ b ≠ wq.heap.size ∧ b ≠ w.heap.size) v3 ks))
  case atStart => exact ⟨0, [], s2, _, .slice none 0 0, rfl, Nat.zero_le _, rfl, ⟨rfl, by simp⟩, ⟨HPPL.out⟩, ⟨HML.out⟩, ⟨HOL.out⟩, ⟨HRL.out⟩, ⟨PL.out⟩, ⟨Kd.N_nil _ _ _ _ _⟩⟩
  case round =>
    clear HPPL HML HOL HRL PL hTL
    obtain ⟨i, ks, si, pi, v3, rfl, hi, hgk, HK, HPP, HM, HO, HR, HP, HN⟩ := hrel
    have hTr : wq.heap.size < wr.heap.size := blk_lt HO.out
    have hA := below_alloc (Below.refl wr.heap.size wr) (.cells mkKids 3)
    have kc : (wr.alloc (.cells mkKids 3)).cell? ⟨wr.heap.size, kk, none⟩ = some (.int .i64 (q : Int)) := ((Own.new wr mkKids 3).cell kk).trans (by rw [many_at kk (by omega) (by omega)]; exact congrArg (fun z => some (Value.int .i64 z)) hq)
    have kd0 : decide (0 ≤ (kk : Int)) = true := by rw [decide_eq_true_eq]; omega
    have kd14 : decide ((kk : Int) < 14) = true := by rw [decide_eq_true_eq]; omega
    by_cases hlt : i < q
    · have hdd : decide ((i : Int) < (q : Int)) = true := by rw [decide_eq_true_eq]; omega
      obtain ⟨wb, hwb⟩ : ∃ wb, wb = wr.alloc (.cells mkKids 3) := ⟨_, rfl⟩
      have hAb : Below wr.heap.size wr wb := by rw [hwb]; exact hA
      have OB := Lib.hid (show Own wb _ _ _ from blk_below HO.out hAb)
      clear hA
      go_wp2_with fail
      rw [← hwb]
      clear hwb kc
      have OBd : Own wb.drew wq.heap.size _ _ := OB.out
      refine start_ (n := 10) (S := fun w' => w'.cell? ⟨wq.heap.size, 3, none⟩ = some v3) (ds := [9]) #[false, false, false, false, false, false, false, false, false, false] (by kernel_rfl) rfl rfl (OBd.cell 3) (fun hHeld => ?_)
      have hD : Below wr.heap.size wr wb.drew := below_drew hAb
      generalize wb.drew = W1 at hD hHeld OBd ⊢
      refine pure_ (i := 0) (N := some 72) (v := ?_) (a' := ?_) #[true, false, false, false, false, false, false, false, false, false] rfl rfl (by kernel_rfl) (fun _ _ _ h => h) (Or.inl ⟨by rfl, ?_⟩) ?_ ?_
      rotate_left
      · intro w'
        go_simp
        with_reducible rfl
      rotate_left
      · simp only [Act.put, List.setIfInBounds_toArray, List.set_cons_zero, List.set_cons_succ]
        rfl
      refine pure_ (i := 2) (N := some 74) (v := ?_) (a' := ?_) #[true, false, true, false, false, false, false, false, false, false] rfl rfl (by kernel_rfl) (fun _ _ _ h => h) (Or.inl ⟨by rfl, ?_⟩) ?_ ?_
      rotate_left
      · intro w'
        go_simp
        with_reducible rfl
      rotate_left
      · simp only [Act.put, List.setIfInBounds_toArray, List.set_cons_zero, List.set_cons_succ]
        rfl
      refine pure_ (i := 3) (N := some 75) (v := ?_) (a' := ?_) #[true, false, true, true, false, false, false, false, false, false] rfl rfl (by kernel_rfl) (fun _ _ _ h => h) (Or.inl ⟨by rfl, ?_⟩) ?_ ?_
      rotate_left
      · intro w'
        go_simp
        with_reducible rfl
      rotate_left
      · simp only [Act.put, List.setIfInBounds_toArray, List.set_cons_zero, List.set_cons_succ]
        rfl
      refine take_ (i := 1) (N := some 73) (v := ?_) (a' := ?_) #[true, true, true, true, false, false, false, false, false, false] rfl rfl (by kernel_rfl) (fun _ _ _ h => h) (Or.inl ⟨by rfl, ?_⟩) hHeld ?_ ?_
      rotate_left
      · intro w' s0
        go_simp
        with_reducible rfl
      rotate_left
      · simp only [Act.put, List.setIfInBounds_toArray, List.set_cons_zero, List.set_cons_succ]
        rfl
      refine pure_ (i := 4) (N := some 76) (v := ?_) (a' := ?_) #[true, true, true, true, true, false, false, false, false, false] rfl rfl (by kernel_rfl) (fun _ _ _ h => h) (Or.inl ⟨by rfl, ?_⟩) ?_ ?_
      rotate_left
      · intro w'
        go_simp
        rw [show IntKind.i64.wrap (d : Int) = d by rw [i64_w, wrap_id (by omega) (by omega)]]
      rotate_left
      · simp only [Act.put, List.setIfInBounds_toArray, List.set_cons_zero, List.set_cons_succ]
        rfl
      refine one_ (i := 5) (N := some 77) #[true, true, true, true, true, true, false, false, false, false] rfl rfl (by kernel_rfl) (by decide) (fun K hK => ?_)
      refine goes_ Tryd.func11 (by kernel_rfl) rfl #[.pointer (some ⟨g, 0, none⟩), .int .i64 (d : Int)] (by rfl) rfl rfl (by (try simp only [List.map_toArray, List.map_cons, List.map_nil]); first | done | rfl) ?_
      refine (ih g A c pi si W1 (HM.out.past hD)).mono ?_
      rintro e w2 ⟨A3, c3, rfl, hl3, hF3, hp3, p3, hpp3, hm3⟩
      have O2 := Own.past' OBd hp3 (by omega)
      have P2 : Past g wr w2 := (Past.of_below hD).trans hp3
      have hs2 : wr.heap.size ≤ w2.heap.size := P2.size
      have hsW : wr.heap.size ≤ W1.heap.size := hD.size
      have hN2 := Kd.N_step HN.out (fun b hb hlt => P2.block b hlt (by have := hb.1; omega))
      have hlt3 := Kd.N_lt HN.out
      generalize htk : makeT d si = tk at *
      refine ⟨_, rfl, ?_⟩
      refine hK.out _ _ (O2.cell 3) (fun hHeld => ?_)
      clear hK K
      refine norm_ (a' := ?_) ?_ ?_
      rotate_left
      · show Act.put _ (some 77) _ = _
        simp only [Act.put, List.setIfInBounds_toArray, List.set_cons_zero, List.set_cons_succ]
        rfl
      refine one_ (i := 6) (N := some 78) #[true, true, true, true, true, true, true, false, false, false] rfl rfl (by kernel_rfl) (by decide) (fun K hK => ?_)
      refine value_ (w1 := ?_) (v := ?_) (by rfl) rfl ?_ ?_
      rotate_left 2
      · go_simp
        constructor
        · rfl
        · rfl
      refine hK.out _ _ ((O2.alloc _).cell 3) (fun hHeld => ?_)
      clear hK K
      refine norm_ (a' := ?_) ?_ ?_
      rotate_left
      · show Act.put _ (some 78) _ = _
        simp only [Act.put, List.setIfInBounds_toArray, List.set_cons_zero, List.set_cons_succ]
        rfl
      refine one_ (i := 7) (N := some 79) #[true, true, true, true, true, true, true, true, false, false] rfl rfl (by kernel_rfl) (by decide) (fun K hK => ?_)
      refine Kd.N_append_step k26 (w0 := w2) w.heap.size (by rfl) (.tmp 73) (.tmp 78) 24 26 (.agg zeroV) 56 rfl Tryd.underlying24 mkInfo rfl (by decide) (by omega) v3 ks tk.1 [.int .i64 tk.1.f0, .string tk.1.f1, .int .i64 tk.1.f2, .slice A3 tk.1.f3.length c3] (fun b => w.heap.size ≤ b ∧ b ≠ wq.heap.size ∧ b ≠ w.heap.size) (fun b => W1.heap.size ≤ b) rfl rfl (fun W2 hW => k26_mk W2 tk.1 hl3 (hF3 W2 hW)) (fun b hb => ⟨⟨by omega, by omega, by omega⟩, fun he => by have := hlt3 b he.symm; omega⟩) (fun b hb => ⟨by omega, by omega, by omega⟩) hN2 (Below.refl _ _) (by omega) (by have := HK.out.1; omega) ?_
      intro v1 w3 hN3 hb3 hg3 hat3
      obtain ⟨A5, c5, rfl⟩ := Kd.N_slice hN3
      obtain ⟨m5, hm5⟩ : ∃ m, (ks ++ [tk.1]).length = m := ⟨_, rfl⟩
      rw [hm5] at hN3 ⊢
      have O3 : Own w3 wq.heap.size _ _ := blk_grown O2 hg3 (Kd.N_away hN2 (fun b hb => hb.2.1))
      refine hK.out _ _ (O3.cell 3) (fun hHeld => ?_)
      clear hK K
      refine norm_ (a' := ?_) ?_ ?_
      rotate_left
      · show Act.put _ (some 79) _ = _
        simp only [Act.put, List.setIfInBounds_toArray, List.set_cons_zero, List.set_cons_succ]
        rfl
      refine pure_ (i := 8) (N := some 80) (v := ?_) (a' := ?_) #[true, true, true, true, true, true, true, true, true, false] rfl rfl (by kernel_rfl) (fun _ _ _ h => h) (Or.inl ⟨by rfl, ?_⟩) ?_ ?_
      rotate_left
      · intro w'
        go_simp
        with_reducible rfl
      rotate_left
      · simp only [Act.put, List.setIfInBounds_toArray, List.set_cons_zero, List.set_cons_succ]
        rfl
      have hs3 := O3.cell 3
      have hfs3 := O3.fz 3
      refine last_ (i := 9) (N := none) #[true, true, true, true, true, true, true, true, true, true] rfl rfl (by kernel_rfl) (by decide) (fun K hK => ?_)
      refine skip_ (w1 := ?_) (by rfl) rfl ?_ ?_
      rotate_left
      · go_simp
        rfl
      refine hK.out _ _ ?_
      clear hK K
      refine done_ (by kernel_rfl) ?_
      have hs23 : w2.heap.size ≤ w3.heap.size := hb3.size
      have hPw : Past g w (w3.setCell ⟨wq.heap.size, 3, none⟩ (.slice A5 m5 c5)) := (((HP.out.trans P2).belowN (hb3.mono (by omega)))).new (by show w.heap.size ≤ wq.heap.size; omega) _
      have HPPn := Aside0.mk (hpp3.trans HPP.out)
      have HMn := Aside0.mk (far_set (u := (.slice A5 m5 c5)) (j := 3) (T := wq.heap.size) H0.out HPPn.out (H0.out.old HPPn.out hm3 (hb3.mono (by omega))) (by omega) (by omega))
      have HOn := Aside0.mk (show Own (w3.setCell ⟨wq.heap.size, 3, none⟩ (.slice A5 m5 c5)) wq.heap.size #[.int .i64 (kk : Int), .string ⟨#[]⟩, .int .i64 0, (.slice A5 m5 c5)] 26 by simpa [Own] using blk_set O3 3 (.slice A5 m5 c5))
      have hR2 := Own.past' (show Own W1 w.heap.size zeroV 26 from blk_below HR.out hD) hp3 (by omega)
      have hR3 : Own w3 w.heap.size zeroV 26 := blk_grown hR2 hg3 (Kd.N_away hN2 (fun b hb => hb.2.2))
      have HRn := Aside0.mk (show Own (w3.setCell ⟨wq.heap.size, 3, none⟩ (.slice A5 m5 c5)) w.heap.size zeroV 26 from (Below.heap_setCell _ _ _ _ (by show w.heap.size ≠ wq.heap.size; omega)).trans hR3)
      have HPn := Aside0.mk hPw
      have HNn := Aside0.mk (Kd.N_far hN3 (p := ⟨wq.heap.size, 3, none⟩) (fun b hb => hb.2.1) (.slice A5 m5 c5))
      have hstep : kidsM (makeT d) (q - i) si = (tk.1 :: (kidsM (makeT d) (q - (i + 1)) tk.2).1, (kidsM (makeT d) (q - (i + 1)) tk.2).2) := by
        rw [show q - i = (q - (i + 1)) + 1 by omega, kidsM, htk]
      have HKn := Aside0.mk (show (ks ++ [tk.1]).length = i + 1 ∧ kidsM (makeT d) q s2 = ((ks ++ [tk.1]) ++ (kidsM (makeT d) (q - (i + 1)) tk.2).1, (kidsM (makeT d) (q - (i + 1)) tk.2).2) by
        refine ⟨by rw [List.length_append, HK.out.1]; rfl, ?_⟩
        rw [HK.out.2, hstep]; simp)
      clear hN3 hb3 hg3 hat3 O3 hs3 hfs3 hHeld O2 P2 hN2 hlt3 hF3 hp3 hm3 hpp3 hR2 hR3 hstep hPw hl3 hD OBd
      try clear hHeld
      go_wp2_with fail
      go_roundg (q - (i + 1))
      case measure => omega
      case rel => exact ⟨i + 1, ks ++ [tk.1], tk.2, p3, (.slice A5 m5 c5), by go_num, by omega, rfl, HKn, HPPn, HMn, HOn, HRn, HPn, HNn⟩
    · have hdd : decide ((i : Int) < (q : Int)) = false := by rw [decide_eq_false_iff_not]; omega
      have hiq : i = q := by omega
      have HK2 := Lib.hid HK.out
      obtain ⟨A3, c3, rfl⟩ := Kd.N_slice HN.out
      have OB : Own _ _ _ _ := blk_below HO.out hA
      have u0 := OB.cell 0
      have u1 := OB.cell 1
      have u2 := OB.cell 2
      have u3 := OB.cell 3
      have RB : Own _ _ _ _ := blk_below HR.out hA
      have r0 := RB.cell 0
      have r1 := RB.cell 1
      have r2 := RB.cell 2
      have r3 := RB.cell 3
      have rz := fun i => RB.fz i
      have HRB := Lib.hid RB
      have HPB := Lib.hid (HP.out.trans (Past.of_below hA))
      have HMB := Lib.hid (HM.out.past hA)
      have HNB := Lib.hid (Kd.N_below HN.out hA)
      have HIQ := Lib.hid hiq
      have hsz : w.heap.size ≤ wr.heap.size := by omega
      clear hA OB RB hiq
      go_wp2_with fail
      refine ret4 rfl rfl (Own.four HRB.out) ?_
      have hb4 := fun a b c d => four_set (w3size := 0) (a := a) (b := b) (c := c) (d := d) (Below.refl w.heap.size (wr.alloc (.cells mkKids 3)))
      have hi := HIQ.out
      subst hi
      have hk := HK2.out.2
      rw [Nat.sub_self, kidsM, List.append_nil] at hk
      rw [hk]
      have hN4 := Kd.N_far (Kd.N_far (Kd.N_far (Kd.N_far HNB.out (p := ⟨w.heap.size, 0, none⟩) (fun b hb => hb.2.2) (.int .i64 (kk : Int))) (p := ⟨w.heap.size, 1, none⟩) (fun b hb => hb.2.2) (.string ⟨#[]⟩)) (p := ⟨w.heap.size, 2, none⟩) (fun b hb => hb.2.2) (.int .i64 0)) (p := ⟨w.heap.size, 3, none⟩) (fun b hb => hb.2.2) (.slice A3 ks.length c3)
      exact ⟨A3, c3, rfl, (Kd.N_reads' hN4).2.1, Kd.F_mono (Kd.N_F hN4) (fun b hb => hb.1), HPB.out.belowN (hb4 _ _ _ _), _, HPP.out, H0.out.old HPP.out HMB.out (hb4 _ _ _ _)⟩
theorem made_way (dv : Int) (g : Nat) (A : Option Addr) (c : Nat) (p s : List UInt8) (w : World) (h : Mk g A c p s w) (hw : decide (dv ≤ 0) = true ∨ (decide (dv ≤ 0) = false ∧ (byteM s).2 = []) ) (k : Int) (hk : 1 + (1 + (byteM s).1 % 13) % 2 = k) :
    Calls Tryd.prog 11 #[.pointer (some ⟨g, 0, none⟩), .int .i64 dv] w (MadeR g A c p s w (⟨k, (headM k (byteM s).2).1, (headM k (byteM s).2).2.1, []⟩, (headM k (byteM s).2).2.2)) := by
  have hx := byteM_range s
  have hx2 := byteM_range (byteM s).2
  have hkk : 1 + (byteM s).1 % 13 = (((1 + (byteM s).1 % 13).toNat : Nat) : Int) := by omega
  have hj : ((byteM (byteM s).2).1 % 5).toNat < 5 := by omega
  have hq2 : (byteM (byteM s).2).1 % 5 = ((((byteM (byteM s).2).1 % 5).toNat : Nat) : Int) := by omega
  have hk2 : 1 + (((1 + (byteM s).1 % 13).toNat : Nat) : Int) % 2 = k := by rw [← hkk]; exact hk
  have h12 : k = 1 ∨ k = 2 := by omega
  rcases h12 with rfl | rfl
  · have e1 : (headM 1 (byteM s).2) = (⟨#[]⟩, (byteM (byteM (byteM s).2).2).1 * 8421504, (byteM (byteM (byteM s).2).2).2) := by unfold headM; rw [if_pos rfl]
    rw [e1]
    rcases hw with hw | ⟨hw, he⟩
    · exact term_numA dv hw g A c p s w h _ _ rfl _ _ rfl _ hkk hk2 _ hj hq2 _ rfl _ _ rfl
    · exact term_numB dv hw g A c p s w h _ _ rfl _ _ rfl he _ hkk hk2 _ hj hq2 _ rfl _ _ rfl
  · have e1 : (headM 2 (byteM s).2) = (madeNames.getD ((byteM (byteM s).2).1 % 5).toNat noName, 0, (byteM (byteM s).2).2) := by unfold headM; rw [if_neg (by decide), if_neg (by decide), if_pos (.inl rfl)]
    rw [e1]
    rcases hw with hw | ⟨hw, he⟩
    · exact term_varA dv hw g A c p s w h _ _ rfl _ _ rfl _ hkk hk2 _ hj hq2 _ rfl
    · exact term_varB dv hw g A c p s w h _ _ rfl _ _ rfl he _ hkk hk2 _ hj hq2 _ rfl
theorem made_deep (d : Nat) (hd : d ≤ 100) (ih : MadeH d) (g : Nat) (A : Option Addr) (c : Nat) (p s : List UInt8) (w : World) (h : Mk g A c p s w) (he : (byteM s).2 ≠ []) (k : Int) (hk : 1 + (byteM s).1 % 13 = k) :
    Calls Tryd.prog 11 #[.pointer (some ⟨g, 0, none⟩), .int .i64 ((d : Int) + 1)] w (MadeR g A c p s w (⟨k, (headM k (byteM s).2).1, (headM k (byteM s).2).2.1, (kidsM (makeT d) (kidsOf k).toNat (headM k (byteM s).2).2.2).1⟩, (kidsM (makeT d) (kidsOf k).toNat (headM k (byteM s).2).2.2).2)) := by
  have hx := byteM_range s
  have hx2 := byteM_range (byteM s).2
  have hx3 := byteM_range (byteM (byteM s).2).2
  have hj : ((byteM (byteM s).2).1 % 5).toNat < 5 := by omega
  have hq2 : (byteM (byteM s).2).1 % 5 = ((((byteM (byteM s).2).1 % 5).toNat : Nat) : Int) := by omega
  have hd0 : decide ((d : Int) + 1 ≤ 0) = false := by rw [decide_eq_false_iff_not]; omega
  have h13 : 1 ≤ k ∧ k ≤ 13 := by omega
  by_cases k1 : k = 1
  · subst k1
    have e1 : (headM 1 (byteM s).2) = (⟨#[]⟩, (byteM (byteM (byteM s).2).2).1 * 8421504, (byteM (byteM (byteM s).2).2).2) := by unfold headM; rw [if_pos rfl]
    rw [e1, show (kidsOf 1).toNat = 0 from rfl, kidsM]
    exact term_numC ((d : Int) + 1) hd0 g A c p s w h _ _ rfl _ _ rfl he hk _ hj hq2 _ rfl _ _ rfl
  by_cases k2 : k = 2
  · subst k2
    have e1 : (headM 2 (byteM s).2) = (madeNames.getD ((byteM (byteM s).2).1 % 5).toNat noName, 0, (byteM (byteM s).2).2) := by unfold headM; rw [if_neg (by decide), if_neg (by decide), if_pos (.inl rfl)]
    rw [e1, show (kidsOf 2).toNat = 0 from rfl, kidsM]
    exact term_varC ((d : Int) + 1) hd0 g A c p s w h _ _ rfl _ _ rfl he hk _ hj hq2 _ rfl
  by_cases k12 : k = 12
  · subst k12
    have hj3 : ((byteM (byteM (byteM s).2).2).1 % 5).toNat < 5 := by omega
    have hq3 : (byteM (byteM (byteM s).2).2).1 % 5 = ((((byteM (byteM (byteM s).2).2).1 % 5).toNat : Nat) : Int) := by omega
    have e1 : (headM 12 (byteM s).2) = (opWords.getD ((byteM (byteM (byteM s).2).2).1 % 5).toNat noName, 0, (byteM (byteM (byteM s).2).2).2) := by unfold headM; rw [if_neg (by decide), if_pos rfl]
    rw [e1]
    exact term_opC d hd ih g A c p s w h _ _ rfl _ _ rfl he hk _ hj hq2 _ rfl _ _ rfl _ hj3 hq3 _ rfl 2 rfl (by omega)
  have hkn : 1 + (byteM s).1 % 13 = ((k.toNat : Nat) : Int) := by omega
  have hkk : ((k.toNat : Nat) : Int) = k := by omega
  have g1 : (((k.toNat : Nat) : Int) == 1) = false := by rw [hkk]; simpa using k1
  have g2 : (((k.toNat : Nat) : Int) == 2) = false := by rw [hkk]; simpa using k2
  have g12 : (((k.toNat : Nat) : Int) == 12) = false := by rw [hkk]; simpa using k12
  have hq0 := kidsOf_nonneg h13.1 h13.2
  have hq3 : kidsOf k ≤ 3 := by
    have : k = 1 ∨ k = 2 ∨ k = 3 ∨ k = 4 ∨ k = 5 ∨ k = 6 ∨ k = 7 ∨ k = 8 ∨ k = 9 ∨ k = 10 ∨ k = 11 ∨ k = 12 ∨ k = 13 := by omega
    rcases this with rfl | rfl | rfl | rfl | rfl | rfl | rfl | rfl | rfl | rfl | rfl | rfl | rfl <;> decide
  have hq : kidsOf ((k.toNat : Nat) : Int) = (((kidsOf k).toNat : Nat) : Int) := by rw [hkk]; omega
  cases eb : binderK k with
  | true =>
    have e1 : (headM k (byteM s).2) = (madeNames.getD ((byteM (byteM s).2).1 % 5).toNat noName, 0, (byteM (byteM s).2).2) := by unfold headM; rw [if_neg k1, if_neg k12, if_pos (.inr eb)]
    rw [e1]
    have := term_bindC d hd ih g A c p s w h _ _ rfl _ _ rfl he k.toNat hkn (by omega) (by omega) g1 g12 g2 (by rw [hkk]; exact eb) _ hj hq2 _ rfl (kidsOf k).toNat hq (by omega)
    rwa [hkk] at this
  | false =>
    have e1 : (headM k (byteM s).2) = (⟨#[]⟩, 0, (byteM (byteM s).2).2) := by
      unfold headM; rw [if_neg k1, if_neg k12, if_neg (by rw [eb]; rintro (h | h); exact k2 h; cases h)]
    rw [e1]
    have := term_plainC d hd ih g A c p s w h _ _ rfl _ _ rfl he k.toNat hkn (by omega) (by omega) g1 g12 g2 (by rw [hkk]; exact eb) _ hj hq2 _ rfl (kidsOf k).toNat hq (by omega)
    rwa [hkk] at this
theorem made_all : ∀ d, d ≤ 100 → MadeH d
  | 0, _ => fun g A c p s w h => by
    have hk : kindM true s = 1 + (1 + (byteM s).1 % 13) % 2 := by unfold kindM; rw [if_pos (Or.inl rfl)]
    rw [makeT]
    exact made_way 0 g A c p s w h (.inl rfl) _ hk.symm
  | d + 1, hd => fun g A c p s w h => by
    have hc : (((d + 1 : Nat) : Int)) = (d : Int) + 1 := rfl
    rw [makeT, hc]
    by_cases he : (byteM s).2 = []
    · have hk : kindM false s = 1 + (1 + (byteM s).1 % 13) % 2 := by unfold kindM; rw [if_pos (Or.inr he)]
      have h12 : kindM false s = 1 ∨ kindM false s = 2 := by have := byteM_range s; omega
      have h0 : (kidsOf (kindM false s)).toNat = 0 := by rcases h12 with h | h <;> rw [h] <;> rfl
      rw [h0, kidsM]
      exact made_way ((d : Int) + 1) g A c p s w h (.inr ⟨by rw [decide_eq_false_iff_not]; omega, he⟩) _ hk.symm
    · have hk : kindM false s = 1 + (byteM s).1 % 13 := by unfold kindM; rw [if_neg (by simp [he])]
      exact made_deep d (by omega) (made_all d (by omega)) g A c p s w h he _ hk.symm
set_option maxRecDepth 100000 in
set_option maxHeartbeats 8000000 in
theorem madeC (A : Option Addr) (c : Nat) (l : List UInt8) (w : World) (hr : ∀ (j : Nat) b, l[j]? = some b → ∃ ad, A = some ad ∧ w.cell? (ad.add j) = some (.int .u8 (b.toNat : Int))) (hc : l.length ≤ c) (hl : l.length ≤ 9223372036854775807) :
    Calls Tryd.prog 5 #[.slice A l.length c] w fun e w' => ∃ v, e = .returned v ∧ TmV w.heap.size w' (madeT l) v ∧ Below w.heap.size w w' := by
  obtain ⟨m, hm⟩ : ∃ m : Nat, m = min l.length 60 := ⟨_, rfl⟩
  have hmi : min (l.length : Int) 60 = (m : Int) := by omega
  have hmc : decide ((m : Int) ≤ (c : Int)) = true := by rw [decide_eq_true_eq]; omega
  have hmc2 : (m ≤ c) = True := eq_true (by omega)
  have hmc3 : (c < m) = False := eq_false (by omega)
  have hml : (l.take 60).length = m := by rw [List.length_take, hm]; omega
  obtain ⟨W, hW⟩ : ∃ W, W = (w.alloc (.cells zeroV 26)).alloc (.cells #[.slice A m c, .int .i64 0] 41) := ⟨_, rfl⟩
  have hWs : W.heap.size = w.heap.size + 2 := by rw [hW]; simp
  have hb : Below w.heap.size w W := by rw [hW]; exact below_alloc (below_alloc (Below.refl _ _) _) _
  have OR : Own W w.heap.size zeroV 26 := by rw [hW]; exact (Own.new w zeroV 26).alloc _
  have OM : Own W (w.heap.size + 1) #[.slice A m c, .int .i64 0] 41 := by rw [hW]; exact Own.new2 w _ _ _
  have HM : Mk (w.heap.size + 1) A c [] (l.take 60) W := by
    refine ⟨?_, fun j b hj => ?_, ?_⟩
    · rw [List.nil_append, hml]; exact OM
    · rw [List.nil_append, List.getElem?_take] at hj
      split at hj
      · obtain ⟨ad, ha, hcell⟩ := hr j b hj
        have hlt := cell_lt hcell
        rw [add_block] at hlt
        exact ⟨ad, ha, by omega, pw_cell_below hb hcell⟩
      · cases hj
    · rw [List.nil_append, hml]; omega
  have K := Lib.hid (made_all 6 (by omega) (w.heap.size + 1) A c [] (l.take 60) W HM)
  have HO := Lib.hid OR
  have HB := Lib.hid hb
  clear hr hc hl hm hml HM OM OR hb
  go_enter Tryd.func5, Tryd.ntmps5
  go_wp2_with fail
  rw [← hW]
  refine K.out.mono ?_
  rintro e w2 ⟨A3, c3, rfl, hl3, hF, hp, p2, hpp, hm2⟩
  have O2 := Own.past' HO.out hp (by omega)
  have d0 := O2.cell 0
  have d1 := O2.cell 1
  have d2 := O2.cell 2
  have d3 := O2.cell 3
  have dz := fun i => O2.fz i
  have HO2 := Lib.hid O2
  have HB2 := Lib.hid (hp.below (B := w.heap.size) (by omega) (by omega))
  have HF := Lib.hid hF
  have HL3 := Lib.hid hl3
  clear hp hm2 hpp O2 hF hl3
  go_wp2_with fail
  refine ret4 rfl rfl (Own.four HO2.out) ?_
  refine ⟨_, rfl, ?_, four_set (w3size := 0) (HB.out.trans HB2.out)⟩
  have hv : TmV W.heap.size w2 (madeT l) (.agg #[.int .i64 (madeT l).f0, .string (madeT l).f1, .int .i64 (madeT l).f2, .slice A3 (madeT l).f3.length c3]) :=
    ⟨A3, c3, rfl, HL3.out, fun w3 h3 => HF.out w3 (fun k hk hlt => h3.block k hk hlt)⟩
  exact (hv.same (four_same (Same.refl _ _) (by omega))).mono (by omega)
end Go.Proofs.YtchekgnacodolaaDoor.X
end

-- Joined by our own program (wip/tools/prune.py) out of the seat's texts, less what this claim doesn't name.
import Derived.Test.YtchekgnacodolaaGreatDoorJ6
import Derived.Test.YtchekgnacodolaaGreatDoorJ8
set_option maxHeartbeats 8000000
set_option maxRecDepth 100000
section
namespace Go.Proofs.YtchekgnacodolaaGreatDoor.X
open Go.RowKit Go.Proofs.YtchekgnacodolaaGreatDoorW.PrintWords Go.Proofs.YtchekgnacodolaaGreatDoorW.PrintLast Go.Proofs.YtchekgnacodolaaGreatDoorW.PrintMore
attribute [local go_sem] zqK zqL max_two min_two zqB zqC zqI zqJ
set_option linter.unusedVariables false
set_option linter.unusedSimpArgs false
mutual
def chancelref02_Lex.l0 : Nat → ByteArray → List (S107) → Int → Option ((List (S107)) × Int)
 | 0, _, _, _ => none
 | k + 1, x0, x4, x5 => if x5 < (x0.size : Int) then (if 0 ≤ x5 then (if (bt x0 x5) = 32 then (chancelref02_Lex.j1 k x0 x4 x5 x5 true) else (chancelref02_Lex.j1 k x0 x4 x5 x5 ((bt x0 x5) == 10))) else (none)) else (some (x4, 0))
def chancelref02_Lex.j1 : Nat → ByteArray → List (S107) → Int → Int → Bool → Option ((List (S107)) × Int)
 | 0, _, _, _, _, _ => none
 | k + 1, x0, x4, x5, x6, x33 => if x33 = true then (chancelref02_Lex.l0 k x0 x4 (wrap64 (x5 + 1))) else (if 0 ≤ x5 then (if x5 < (x0.size : Int) then (if (bt x0 x5) = 35 then (chancelref02_Lex.l1 k x0 x4 x5) else ((chancelref02_letter.f (bt x0 x5)).bind fun t339 => (if t339 = true then (chancelref02_Lex.j3 k x0 x4 x5 x6 true) else ((chancelref02_digit.f (bt x0 x5)).bind fun t340 => (chancelref02_Lex.j3 k x0 x4 x5 x6 t340))))) else (none)) else (none))
def chancelref02_Lex.l1 : Nat → ByteArray → List (S107) → Int → Option ((List (S107)) × Int)
 | 0, _, _, _ => none
 | k + 1, x0, x4, x5 => if x5 < (x0.size : Int) then (if 0 ≤ x5 then (if (bt x0 x5) = 10 then (chancelref02_Lex.l0 k x0 x4 x5) else (chancelref02_Lex.l1 k x0 x4 (wrap64 (x5 + 1)))) else (none)) else (chancelref02_Lex.l0 k x0 x4 x5)
def chancelref02_Lex.j3 : Nat → ByteArray → List (S107) → Int → Int → Bool → Option ((List (S107)) × Int)
 | 0, _, _, _, _, _ => none
 | k + 1, x0, x4, x5, x6, x63 => if x63 = true then (chancelref02_Lex.l2 k x0 x4 x5 x6) else (if 0 ≤ x5 then (if x5 ≤ (x0.size : Int) then ((chancelref02_mark.f k (x0.extract (x5 : Int).toNat x0.size)).bind fun t368 => (if t368.toList = ([] : List UInt8) then (some (([] : List (S107)), 2)) else (if x4.length < 4398046511104 then (chancelref02_Lex.l0 k x0 (x4 ++ [(⟨4, t368, 0⟩ : S107)]) (wrap64 (x5 + (t368.size : Int)))) else (none)))) else (none)) else (none))
def chancelref02_Lex.l2 : Nat → ByteArray → List (S107) → Int → Int → Option ((List (S107)) × Int)
 | 0, _, _, _, _ => none
 | k + 1, x0, x4, x5, x6 => if x5 < (x0.size : Int) then (if 0 ≤ x5 then ((chancelref02_digit.f (bt x0 x5)).bind fun t341 => (if t341 = true then (chancelref02_Lex.l2 k x0 x4 (wrap64 (x5 + 1)) x6) else ((chancelref02_letter.f (bt x0 x5)).bind fun t342 => (if t342 = true then (if 0 ≤ x6 then (if x6 < (x0.size : Int) then ((chancelref02_letter.f (bt x0 x6)).bind fun t343 => (if t343 = true then (chancelref02_Lex.l2 k x0 x4 (wrap64 (x5 + 1)) x6) else (if x6 ≤ x5 then (if x5 ≤ (x0.size : Int) then ((chancelref02_word.f k (x0.extract (x6 : Int).toNat (x5 : Int).toNat)).bind fun bt344 => (if bt344.2.2.2 = true then (if x4.length < 4398046511104 then (chancelref02_Lex.l0 k x0 (x4 ++ [(⟨bt344.1, bt344.2.1, bt344.2.2.1⟩ : S107)]) x5) else (none)) else (some (([] : List (S107)), 2)))) else (none)) else (none)))) else (none)) else (none)) else (if 0 ≤ x6 then (if x6 ≤ x5 then (if x5 ≤ (x0.size : Int) then ((chancelref02_word.f k (x0.extract (x6 : Int).toNat (x5 : Int).toNat)).bind fun bt352 => (if bt352.2.2.2 = true then (if x4.length < 4398046511104 then (chancelref02_Lex.l0 k x0 (x4 ++ [(⟨bt352.1, bt352.2.1, bt352.2.2.1⟩ : S107)]) x5) else (none)) else (some (([] : List (S107)), 2)))) else (none)) else (none)) else (none)))))) else (none)) else (if 0 ≤ x6 then (if x6 ≤ x5 then (if x5 ≤ (x0.size : Int) then ((chancelref02_word.f k (x0.extract (x6 : Int).toNat (x5 : Int).toNat)).bind fun bt360 => (if bt360.2.2.2 = true then (if x4.length < 4398046511104 then (chancelref02_Lex.l0 k x0 (x4 ++ [(⟨bt360.1, bt360.2.1, bt360.2.2.1⟩ : S107)]) x5) else (none)) else (some (([] : List (S107)), 2)))) else (none)) else (none)) else (none))
end
def chancelref02_Lex.f (k : Nat) (a0 : ByteArray) : Option ((List (S107)) × Int) := if (a0.size : Int) > 65536 then (some (([] : List (S107)), 1)) else (chancelref02_Lex.l0 k a0 ([] : List (S107)) 0)
theorem chancelref02_Lex.mono_l : ∀ k, (∀ y0 y1 y2, LeO (chancelref02_Lex.l0 k y0 y1 y2) (chancelref02_Lex.l0 (k + 1) y0 y1 y2)) ∧ (∀ y0 y1 y2 y3 y4, LeO (chancelref02_Lex.j1 k y0 y1 y2 y3 y4) (chancelref02_Lex.j1 (k + 1) y0 y1 y2 y3 y4)) ∧ (∀ y0 y1 y2, LeO (chancelref02_Lex.l1 k y0 y1 y2) (chancelref02_Lex.l1 (k + 1) y0 y1 y2)) ∧ (∀ y0 y1 y2 y3 y4, LeO (chancelref02_Lex.j3 k y0 y1 y2 y3 y4) (chancelref02_Lex.j3 (k + 1) y0 y1 y2 y3 y4)) ∧ (∀ y0 y1 y2 y3, LeO (chancelref02_Lex.l2 k y0 y1 y2 y3) (chancelref02_Lex.l2 (k + 1) y0 y1 y2 y3))
 | 0 => ⟨fun _ _ _ r h => by simp [chancelref02_Lex.l0] at h, fun _ _ _ _ _ r h => by simp [chancelref02_Lex.j1] at h, fun _ _ _ r h => by simp [chancelref02_Lex.l1] at h, fun _ _ _ _ _ r h => by simp [chancelref02_Lex.j3] at h, fun _ _ _ _ r h => by simp [chancelref02_Lex.l2] at h⟩
 | k + 1 => by
  obtain ⟨ih0, ih1, ih2, ih3, ih4⟩ := chancelref02_Lex.mono_l k
  refine ⟨?_, ?_, ?_, ?_, ?_⟩
  ·intro y0 y1 y2
   unfold chancelref02_Lex.l0
   repeat' first
   | (with_reducible exact ih0 _ _ _)
   | (with_reducible exact ih1 _ _ _ _ _)
   | (with_reducible exact ih2 _ _ _)
   | (with_reducible exact ih3 _ _ _ _ _)
   | (with_reducible exact ih4 _ _ _ _)
   | (with_reducible exact chancelref02_mark.mono _ _)
   | (with_reducible exact chancelref02_word.mono _ _)
   | (with_reducible exact LeO.refl _)
   | (with_reducible exact LeO.none _)
   | (with_reducible refine LeO.ite ?_ ?_)
   | (with_reducible refine LeO.bind ?_ (fun _ => ?_))
   | exact ih0 _ _ _
   | exact ih1 _ _ _ _ _
   | exact ih2 _ _ _
   | exact ih3 _ _ _ _ _
   | exact ih4 _ _ _ _
   | exact chancelref02_mark.mono _ _
   | exact chancelref02_word.mono _ _
   | exact LeO.none _
   | refine LeO.ite ?_ ?_
   | refine LeO.bind ?_ (fun _ => ?_)
  ·intro y0 y1 y2 y3 y4
   unfold chancelref02_Lex.j1
   repeat' first
   | (with_reducible exact ih0 _ _ _)
   | (with_reducible exact ih1 _ _ _ _ _)
   | (with_reducible exact ih2 _ _ _)
   | (with_reducible exact ih3 _ _ _ _ _)
   | (with_reducible exact ih4 _ _ _ _)
   | (with_reducible exact chancelref02_mark.mono _ _)
   | (with_reducible exact chancelref02_word.mono _ _)
   | (with_reducible exact LeO.refl _)
   | (with_reducible exact LeO.none _)
   | (with_reducible refine LeO.ite ?_ ?_)
   | (with_reducible refine LeO.bind ?_ (fun _ => ?_))
   | exact ih0 _ _ _
   | exact ih1 _ _ _ _ _
   | exact ih2 _ _ _
   | exact ih3 _ _ _ _ _
   | exact ih4 _ _ _ _
   | exact chancelref02_mark.mono _ _
   | exact chancelref02_word.mono _ _
   | exact LeO.none _
   | refine LeO.ite ?_ ?_
   | refine LeO.bind ?_ (fun _ => ?_)
  ·intro y0 y1 y2
   unfold chancelref02_Lex.l1
   repeat' first
   | (with_reducible exact ih0 _ _ _)
   | (with_reducible exact ih1 _ _ _ _ _)
   | (with_reducible exact ih2 _ _ _)
   | (with_reducible exact ih3 _ _ _ _ _)
   | (with_reducible exact ih4 _ _ _ _)
   | (with_reducible exact chancelref02_mark.mono _ _)
   | (with_reducible exact chancelref02_word.mono _ _)
   | (with_reducible exact LeO.refl _)
   | (with_reducible exact LeO.none _)
   | (with_reducible refine LeO.ite ?_ ?_)
   | (with_reducible refine LeO.bind ?_ (fun _ => ?_))
   | exact ih0 _ _ _
   | exact ih1 _ _ _ _ _
   | exact ih2 _ _ _
   | exact ih3 _ _ _ _ _
   | exact ih4 _ _ _ _
   | exact chancelref02_mark.mono _ _
   | exact chancelref02_word.mono _ _
   | exact LeO.none _
   | refine LeO.ite ?_ ?_
   | refine LeO.bind ?_ (fun _ => ?_)
  ·intro y0 y1 y2 y3 y4
   unfold chancelref02_Lex.j3
   repeat' first
   | (with_reducible exact ih0 _ _ _)
   | (with_reducible exact ih1 _ _ _ _ _)
   | (with_reducible exact ih2 _ _ _)
   | (with_reducible exact ih3 _ _ _ _ _)
   | (with_reducible exact ih4 _ _ _ _)
   | (with_reducible exact chancelref02_mark.mono _ _)
   | (with_reducible exact chancelref02_word.mono _ _)
   | (with_reducible exact LeO.refl _)
   | (with_reducible exact LeO.none _)
   | (with_reducible refine LeO.ite ?_ ?_)
   | (with_reducible refine LeO.bind ?_ (fun _ => ?_))
   | exact ih0 _ _ _
   | exact ih1 _ _ _ _ _
   | exact ih2 _ _ _
   | exact ih3 _ _ _ _ _
   | exact ih4 _ _ _ _
   | exact chancelref02_mark.mono _ _
   | exact chancelref02_word.mono _ _
   | exact LeO.none _
   | refine LeO.ite ?_ ?_
   | refine LeO.bind ?_ (fun _ => ?_)
  ·intro y0 y1 y2 y3
   unfold chancelref02_Lex.l2
   repeat' first
   | (with_reducible exact ih0 _ _ _)
   | (with_reducible exact ih1 _ _ _ _ _)
   | (with_reducible exact ih2 _ _ _)
   | (with_reducible exact ih3 _ _ _ _ _)
   | (with_reducible exact ih4 _ _ _ _)
   | (with_reducible exact chancelref02_mark.mono _ _)
   | (with_reducible exact chancelref02_word.mono _ _)
   | (with_reducible exact LeO.refl _)
   | (with_reducible exact LeO.none _)
   | (with_reducible refine LeO.ite ?_ ?_)
   | (with_reducible refine LeO.bind ?_ (fun _ => ?_))
   | exact ih0 _ _ _
   | exact ih1 _ _ _ _ _
   | exact ih2 _ _ _
   | exact ih3 _ _ _ _ _
   | exact ih4 _ _ _ _
   | exact chancelref02_mark.mono _ _
   | exact chancelref02_word.mono _ _
   | exact LeO.none _
   | refine LeO.ite ?_ ?_
   | refine LeO.bind ?_ (fun _ => ?_)
theorem chancelref02_Lex.mono : ∀ a0 k, LeO (chancelref02_Lex.f k a0) (chancelref02_Lex.f (k + 1) a0) := by
 intro a0 k
 obtain ⟨ih0, ih1, ih2, ih3, ih4⟩ := chancelref02_Lex.mono_l k
 unfold chancelref02_Lex.f
 repeat' first
   | (with_reducible exact ih0 _ _ _)
   | (with_reducible exact ih1 _ _ _ _ _)
   | (with_reducible exact ih2 _ _ _)
   | (with_reducible exact ih3 _ _ _ _ _)
   | (with_reducible exact ih4 _ _ _ _)
   | (with_reducible exact chancelref02_mark.mono _ _)
   | (with_reducible exact chancelref02_word.mono _ _)
   | (with_reducible exact LeO.refl _)
   | (with_reducible exact LeO.none _)
   | (with_reducible refine LeO.ite ?_ ?_)
   | (with_reducible refine LeO.bind ?_ (fun _ => ?_))
   | exact ih0 _ _ _
   | exact ih1 _ _ _ _ _
   | exact ih2 _ _ _
   | exact ih3 _ _ _ _ _
   | exact ih4 _ _ _ _
   | exact chancelref02_mark.mono _ _
   | exact chancelref02_word.mono _ _
   | exact LeO.none _
   | refine LeO.ite ?_ ?_
   | refine LeO.bind ?_ (fun _ => ?_)
theorem chancelref02_Lex.calls (k : Nat) (a0 : ByteArray) (r1 : List (S107)) (r2 : Int) (w : World) (h : chancelref02_Lex.f k a0 = some (r1, r2)) :
  Calls Tryz.prog 58 #[.string a0] w fun e w' => ∃ v0_ : Value, e = .returned (.tuple #[v0_, .int .i64 r2]) ∧ Kd.R k107 107 w' w.heap.size (fun _ => True) v0_ r1 ∧ Below w.heap.size w w' := by
 have hu107 := Tryz.underlying107
 have HB := Aside0.mk (Below.refl w.heap.size w)
 have H : (if (a0.size : Int) > 65536 then (some (([] : List (S107)), 1)) else (chancelref02_Lex.l0 k a0 ([] : List (S107)) 0)) = some (r1, r2) := h
 clear h
 by_cases c2 : (a0.size : Int) > 65536
 ·rw [if_pos c2] at H
  have c2b0 : decide (65536 < (a0.size : Int)) = true := decide_eq_true c2
  have c2b1 : decide (65536 < a0.size) = true := decide_eq_true (by omega)
  clear c2
  simp only [Option.some.injEq, Prod.mk.injEq] at H
  obtain ⟨rfl, rfl⟩ := H
  go_enter Tryz.func58, Tryz.ntmps58
  go_wp2
  go_ret2
  exact ⟨_, by first | rfl | (simp [zqm, zql] <;> rfl) | (simp [*, zqm, zql] <;> rfl), by first | exact Kd.R_nil _ _ _ _ _ | exact Kd.N_nil _ _ _ _ _ | exact Kd.V_nil _ _ _ _ _ | exact Kd.Q_nil _ _ _ _ _ | exact Kd.S_nil _ _ _ _ _, by repeat (first | exact HB.out | apply zqb | apply zqa | apply zqc)⟩
 ·rw [if_neg c2] at H
  have c2b0 : decide (65536 < (a0.size : Int)) = false := decide_eq_false c2
  have c2b1 : decide (65536 < a0.size) = false := decide_eq_false (by omega)
  clear c2
  have H' := Aside0.mk H
  clear H
  go_enter Tryz.func58, Tryz.ntmps58
  go_wp2
  go_loopg [4, 5] k (fun kq v4 v5 w' => ∃ (x4_1 : List (S107)) (x5_1 : Int), v5 = .int .i64 x5_1 ∧ Aside0 (chancelref02_Lex.l0 kq a0 x4_1 x5_1 = some (r1, r2)) ∧ Aside0 (kq ≤ k) ∧ Aside0 (Kd.R k107 107 w' w.heap.size (fun _ => True) v4 x4_1) ∧ Aside0 (Below w.heap.size w w'))
  case atStart => exact ⟨(([] : List (S107))), (0), (by first | rfl | (simp [*]; done)), H', ⟨Nat.le_refl _⟩, ⟨by first | exact Kd.R_nil _ _ _ _ _ | exact Kd.N_nil _ _ _ _ _ | exact Kd.V_nil _ _ _ _ _ | exact Kd.Q_nil _ _ _ _ _ | exact Kd.S_nil _ _ _ _ _⟩, ⟨by repeat (first | exact HB.out | apply zqb | apply zqa | apply zqc)⟩⟩
  case round =>
   clear H'
   try clear c2
   try clear c2b0
   try clear c2b1
   try clear p2
   obtain ⟨x4_1, x5_1, rfl, HA, HK1, HO_4, HB⟩ := hrel
   cases gk with
   | zero => exact absurd HA.out (by simp [chancelref02_Lex.l0])
   | succ k1 =>
    have H := HA.out
    clear HA
    simp only [chancelref02_Lex.l0] at H
    by_cases c3 : x5_1 < (a0.size : Int)
    ·rw [if_pos c3] at H
     have c3b0 : decide (x5_1 < (a0.size : Int)) = true := decide_eq_true c3
     clear c3
     have HC4 := Aside0.mk H
     clear H
     go_upto_region 12 with (fail)
     go_cut [33] (fun v33 wc => ∃ (kq : Nat) (x33_3 : Bool), v33 = .bool x33_3 ∧ Aside0 (chancelref02_Lex.j1 kq a0 x4_1 x5_1 x5_1 x33_3 = some (r1, r2)) ∧ Aside0 (kq ≤ k1) ∧ Aside0 (Kd.R k107 107 wc w.heap.size (fun _ => True) u4 x4_1) ∧ Aside0 (Below w.heap.size w wc))
     case first =>
      have H := HC4.out
      clear HC4
      by_cases c5 : 0 ≤ x5_1
      ·rw [if_pos c5] at H
       have c5b0 : decide (0 ≤ x5_1) = true := decide_eq_true c5
       clear c5
       (first | rw [c5b0] | (simp only [i64_w, i32_w]; rw [c5b0]) | skip)
       by_cases c7 : (bt a0 x5_1) = 32
       ·rw [if_pos c7] at H
        have c7b0 : ((bt a0 x5_1) == 32) = true := beq_iff_eq.mpr c7
        have c7b1 : ((bt a0 x5_1) != 32) = false := bne_eq_false_iff_eq.mpr c7
        clear c7
        have H' := Aside0.mk H
        clear H
        have p6 : 0 ≤ (x5_1 : Int) := of_decide_eq_true (by assumption)
        have q6 : x5_1 < (a0.size : Int) := of_decide_eq_true (by assumption)
        have hx6 := zqs a0 x5_1
        replace p6 := eq_true p6
        replace q6 := eq_true q6
        go_wp2
        go_meet
        case rel => exact ⟨_, (true), (by first | rfl | (simp [*]; done)), H', ⟨by have := HK1.out; first | omega | exact Nat.le_refl _⟩, ⟨by (with_reducible repeat (first | apply Kd.R_alloc | apply Kd.R_drewN | apply Kd.R_drew)); exact HO_4.out⟩, ⟨by repeat (first | exact HB.out | apply zqb | apply zqa | apply zqc)⟩⟩
       ·rw [if_neg c7] at H
        have c7b0 : ((bt a0 x5_1) == 32) = false := beq_eq_false_iff_ne.mpr c7
        have c7b1 : ((bt a0 x5_1) != 32) = true := bne_iff_ne.mpr c7
        have H' := Aside0.mk H
        clear H
        have p6 : 0 ≤ (x5_1 : Int) := of_decide_eq_true (by assumption)
        have q6 : x5_1 < (a0.size : Int) := of_decide_eq_true (by assumption)
        have hx6 := zqs a0 x5_1
        replace p6 := eq_true p6
        replace q6 := eq_true q6
        have p8 : 0 ≤ (x5_1 : Int) := of_decide_eq_true (by assumption)
        have q8 : x5_1 < (a0.size : Int) := of_decide_eq_true (by assumption)
        have hx8 := zqs a0 x5_1
        replace p8 := eq_true p8
        replace q8 := eq_true q8
        go_wp2
        go_meet
        case rel => exact ⟨_, (((bt a0 x5_1) == 10)), (by first | rfl | (simp [*]; done)), H', ⟨by have := HK1.out; first | omega | exact Nat.le_refl _⟩, ⟨by (with_reducible repeat (first | apply Kd.R_alloc | apply Kd.R_drewN | apply Kd.R_drew)); exact HO_4.out⟩, ⟨by repeat (first | exact HB.out | apply zqb | apply zqa | apply zqc)⟩⟩
      ·rw [if_neg c5] at H
       exact absurd H (by simp)
     case rest =>
      clear HC4
      try clear c2
      try clear c2b0
      try clear c2b1
      try clear p2
      try clear c3
      try clear c3b0
      try clear c5
      try clear c5b0
      try clear p6
      try clear q6
      try clear hx6
      try clear c7
      try clear c7b0
      try clear c7b1
      try clear p8
      try clear q8
      try clear hx8
      try clear p2
      try clear p6
      try clear p8
      try clear q6
      try clear q8
      obtain ⟨kq, x33_3, rfl, HA, HJ3, HO_4, HB⟩ := hcut
      cases kq with
      | zero => exact absurd HA.out (by simp [chancelref02_Lex.j1])
      | succ kj3 =>
       have H := HA.out
       clear HA
       simp only [chancelref02_Lex.j1] at H
       by_cases c9 : x33_3 = true
       ·subst c9
        have H1 : (chancelref02_Lex.l0 kj3 a0 x4_1 (wrap64 (x5_1 + 1))) = some (r1, r2) := by rw [if_pos rfl] at H; exact H
        clear H
        have H := H1
        clear H1
        have H' := Aside0.mk H
        clear H
        go_wp2
        go_roundg kj3
        case measure => have := HK1.out; have := HJ3.out; omega
        case rel => exact ⟨(x4_1), (wrap64 (x5_1 + 1)), (by first | rfl | (simp [*]; done)), H', ⟨by have := HK1.out; have := HJ3.out; omega⟩, ⟨by (with_reducible repeat (first | apply Kd.R_alloc | apply Kd.R_drewN | apply Kd.R_drew)); exact HO_4.out⟩, ⟨by repeat (first | exact HB.out | apply zqb | apply zqa | apply zqc)⟩⟩
       ·replace c9 := Bool.eq_false_iff.mpr c9
        subst c9
        have H1 : (if 0 ≤ x5_1 then (if x5_1 < (a0.size : Int) then (if (bt a0 x5_1) = 35 then (chancelref02_Lex.l1 kj3 a0 x4_1 x5_1) else ((chancelref02_letter.f (bt a0 x5_1)).bind fun t339 => (if t339 = true then (chancelref02_Lex.j3 kj3 a0 x4_1 x5_1 x5_1 true) else ((chancelref02_digit.f (bt a0 x5_1)).bind fun t340 => (chancelref02_Lex.j3 kj3 a0 x4_1 x5_1 x5_1 t340))))) else (none)) else (none)) = some (r1, r2) := by rw [if_neg (show ¬ (false = true) by decide)] at H; exact H
        clear H
        have H := H1
        clear H1
        by_cases c10 : 0 ≤ x5_1
        ·rw [if_pos c10] at H
         have c10b0 : decide (0 ≤ x5_1) = true := decide_eq_true c10
         clear c10
         by_cases c11 : x5_1 < (a0.size : Int)
         ·rw [if_pos c11] at H
          have c11b0 : decide (x5_1 < (a0.size : Int)) = true := decide_eq_true c11
          clear c11
          by_cases c13 : (bt a0 x5_1) = 35
          ·rw [if_pos c13] at H
           have c13b0 : ((bt a0 x5_1) == 35) = true := beq_iff_eq.mpr c13
           have c13b1 : ((bt a0 x5_1) != 35) = false := bne_eq_false_iff_eq.mpr c13
           clear c13
           have H' := Aside0.mk H
           clear H
           have p12 : 0 ≤ (x5_1 : Int) := of_decide_eq_true (by assumption)
           have q12 : x5_1 < (a0.size : Int) := of_decide_eq_true (by assumption)
           have hx12 := zqs a0 x5_1
           replace p12 := eq_true p12
           replace q12 := eq_true q12
           go_wp2
           go_loopg [5] kj3 (fun kq v5 w' => ∃ (x5_3 : Int), v5 = .int .i64 x5_3 ∧ Aside0 (chancelref02_Lex.l1 kq a0 x4_1 x5_3 = some (r1, r2)) ∧ Aside0 (kq ≤ kj3) ∧ Aside0 (Kd.R k107 107 w' w.heap.size (fun _ => True) u4 x4_1) ∧ Aside0 (Below w.heap.size w w'))
           case atStart => exact ⟨(x5_1), (by first | rfl | (simp [*]; done)), H', ⟨Nat.le_refl _⟩, ⟨by (with_reducible repeat (first | apply Kd.R_alloc | apply Kd.R_drewN | apply Kd.R_drew)); exact HO_4.out⟩, ⟨by repeat (first | exact HB.out | apply zqb | apply zqa | apply zqc)⟩⟩
           case round =>
            clear H'
            try clear c1
            try clear p1
            try clear q1
            try clear hx1
            try clear c2
            try clear c2b0
            try clear c2b1
            try clear p2
            try clear c3
            try clear c3b0
            try clear c5
            try clear c5b0
            try clear p6
            try clear q6
            try clear hx6
            try clear c7
            try clear c7b0
            try clear c7b1
            try clear p8
            try clear q8
            try clear hx8
            try clear c9
            try clear c10
            try clear c10b0
            try clear c11
            try clear c11b0
            try clear p12
            try clear q12
            try clear hx12
            try clear c13
            try clear c13b0
            try clear c13b1
            try clear p12
            try clear p2
            try clear p6
            try clear p8
            try clear q12
            try clear q6
            try clear q8
            obtain ⟨x5_3, rfl, HA, HK3, HO_4, HB⟩ := hrel
            cases gk with
            | zero => exact absurd HA.out (by simp [chancelref02_Lex.l1])
            | succ k3 =>
             have H := HA.out
             clear HA
             simp only [chancelref02_Lex.l1] at H
             by_cases c14 : x5_3 < (a0.size : Int)
             ·rw [if_pos c14] at H
              have c14b0 : decide (x5_3 < (a0.size : Int)) = true := decide_eq_true c14
              clear c14
              by_cases c15 : 0 ≤ x5_3
              ·rw [if_pos c15] at H
               have c15b0 : decide (0 ≤ x5_3) = true := decide_eq_true c15
               clear c15
               by_cases c17 : (bt a0 x5_3) = 10
               ·rw [if_pos c17] at H
                have c17b0 : ((bt a0 x5_3) == 10) = true := beq_iff_eq.mpr c17
                have c17b1 : ((bt a0 x5_3) != 10) = false := bne_eq_false_iff_eq.mpr c17
                clear c17
                have H' := Aside0.mk H
                clear H
                have p16 : 0 ≤ (x5_3 : Int) := of_decide_eq_true (by assumption)
                have q16 : x5_3 < (a0.size : Int) := of_decide_eq_true (by assumption)
                have hx16 := zqs a0 x5_3
                replace p16 := eq_true p16
                replace q16 := eq_true q16
                go_wp2
                go_roundg k3
                case measure => have := HK1.out; have := HJ3.out; have := HK3.out; omega
                case rel => exact ⟨(x4_1), (x5_3), (by first | rfl | (simp [*]; done)), H', ⟨by have := HK1.out; have := HJ3.out; have := HK3.out; omega⟩, ⟨by (with_reducible repeat (first | apply Kd.R_alloc | apply Kd.R_drewN | apply Kd.R_drew)); exact HO_4.out⟩, ⟨by repeat (first | exact HB.out | apply zqb | apply zqa | apply zqc)⟩⟩
               ·rw [if_neg c17] at H
                have c17b0 : ((bt a0 x5_3) == 10) = false := beq_eq_false_iff_ne.mpr c17
                have c17b1 : ((bt a0 x5_3) != 10) = true := bne_iff_ne.mpr c17
                have H' := Aside0.mk H
                clear H
                have p16 : 0 ≤ (x5_3 : Int) := of_decide_eq_true (by assumption)
                have q16 : x5_3 < (a0.size : Int) := of_decide_eq_true (by assumption)
                have hx16 := zqs a0 x5_3
                replace p16 := eq_true p16
                replace q16 := eq_true q16
                go_wp2
                go_roundg k3
                case measure => have := HK1.out; have := HJ3.out; have := HK3.out; omega
                case rel => exact ⟨(wrap64 (x5_3 + 1)), (by first | rfl | (simp [*]; done)), H', ⟨by have := HK1.out; have := HJ3.out; have := HK3.out; omega⟩, ⟨by (with_reducible repeat (first | apply Kd.R_alloc | apply Kd.R_drewN | apply Kd.R_drew)); exact HO_4.out⟩, ⟨by repeat (first | exact HB.out | apply zqb | apply zqa | apply zqc)⟩⟩
              ·rw [if_neg c15] at H
               exact absurd H (by simp)
             ·rw [if_neg c14] at H
              have c14b0 : decide (x5_3 < (a0.size : Int)) = false := decide_eq_false c14
              clear c14
              have H' := Aside0.mk H
              clear H
              go_wp2
              go_roundg k3
              case measure => have := HK1.out; have := HJ3.out; have := HK3.out; omega
              case rel => exact ⟨(x4_1), (x5_3), (by first | rfl | (simp [*]; done)), H', ⟨by have := HK1.out; have := HJ3.out; have := HK3.out; omega⟩, ⟨by (with_reducible repeat (first | apply Kd.R_alloc | apply Kd.R_drewN | apply Kd.R_drew)); exact HO_4.out⟩, ⟨by repeat (first | exact HB.out | apply zqb | apply zqa | apply zqc)⟩⟩
          ·rw [if_neg c13] at H
           have c13b0 : ((bt a0 x5_1) == 35) = false := beq_eq_false_iff_ne.mpr c13
           have c13b1 : ((bt a0 x5_1) != 35) = true := bne_iff_ne.mpr c13
           have HC18 := Aside0.mk H
           clear H
           have p12 : 0 ≤ (x5_1 : Int) := of_decide_eq_true (by assumption)
           have q12 : x5_1 < (a0.size : Int) := of_decide_eq_true (by assumption)
           have hx12 := zqs a0 x5_1
           replace p12 := eq_true p12
           replace q12 := eq_true q12
           go_upto_region 17 with (fail)
           go_cut [63] (fun v63 wc => ∃ (kq : Nat) (x63_17 : Bool), v63 = .bool x63_17 ∧ Aside0 (chancelref02_Lex.j3 kq a0 x4_1 x5_1 x5_1 x63_17 = some (r1, r2)) ∧ Aside0 (kq ≤ kj3) ∧ Aside0 (Kd.R k107 107 wc w.heap.size (fun _ => True) u4 x4_1) ∧ Aside0 (Below w.heap.size w wc))
           case first =>
            have H := HC18.out
            clear HC18
            replace H := Option.bind_eq_some_iff.mp H
            obtain ⟨t339, A200, H⟩ := H
            replace H : (if t339 = true then (chancelref02_Lex.j3 kj3 a0 x4_1 x5_1 x5_1 true) else ((chancelref02_digit.f (bt a0 x5_1)).bind fun t340 => (chancelref02_Lex.j3 kj3 a0 x4_1 x5_1 x5_1 t340))) = some (r1, r2) := H
            have A20 := Aside0.mk A200
            clear A200
            by_cases c21 : t339 = true
            ·subst c21
             have H1 : (chancelref02_Lex.j3 kj3 a0 x4_1 x5_1 x5_1 true) = some (r1, r2) := by rw [if_pos rfl] at H; exact H
             clear H
             have H := H1
             clear H1
             have H' := Aside0.mk H
             clear H
             have p19 : 0 ≤ (x5_1 : Int) := of_decide_eq_true (by assumption)
             have q19 : x5_1 < (a0.size : Int) := of_decide_eq_true (by assumption)
             have hx19 := zqs a0 x5_1
             replace p19 := eq_true p19
             replace q19 := eq_true q19
             go_wp2_with (first | ((with_reducible refine zqo (f := 94) rfl ?_); refine zqD (some 67) rfl rfl Tryz.func94 (by kernel_rfl) rfl #[.int .u8 (bt a0 x5_1)] rfl (by (try simp only [List.map_toArray, List.map_cons, List.map_nil]); first | done | rfl | (simp only [List.length_drop, List.length_take]; rfl)) ?_; (with_reducible refine (chancelref02_letter.calls (bt a0 x5_1) true _ A20.out).mono ?_); rintro e w' ⟨rfl, ⟨nd, rfl⟩⟩; refine ⟨_, rfl, ?_⟩))
             go_meet
             case rel => exact ⟨_, (true), (by first | rfl | (simp [*]; done)), H', ⟨by have := HK1.out; have := HJ3.out; first | omega | exact Nat.le_refl _⟩, ⟨by (with_reducible repeat (first | apply Kd.R_alloc | apply Kd.R_drewN | apply Kd.R_drew)); exact HO_4.out⟩, ⟨by repeat (first | exact HB.out | apply zqb | apply zqa | apply zqc)⟩⟩
            ·replace c21 := Bool.eq_false_iff.mpr c21
             subst c21
             have H1 : ((chancelref02_digit.f (bt a0 x5_1)).bind fun t340 => (chancelref02_Lex.j3 kj3 a0 x4_1 x5_1 x5_1 t340)) = some (r1, r2) := by rw [if_neg (show ¬ (false = true) by decide)] at H; exact H
             clear H
             have H := H1
             clear H1
             replace H := Option.bind_eq_some_iff.mp H
             obtain ⟨t340, A230, H⟩ := H
             replace H : (chancelref02_Lex.j3 kj3 a0 x4_1 x5_1 x5_1 t340) = some (r1, r2) := H
             have A23 := Aside0.mk A230
             clear A230
             have H' := Aside0.mk H
             clear H
             have p19 : 0 ≤ (x5_1 : Int) := of_decide_eq_true (by assumption)
             have q19 : x5_1 < (a0.size : Int) := of_decide_eq_true (by assumption)
             have hx19 := zqs a0 x5_1
             replace p19 := eq_true p19
             replace q19 := eq_true q19
             go_wp2_with (first | ((with_reducible refine zqo (f := 94) rfl ?_); refine zqD (some 67) rfl rfl Tryz.func94 (by kernel_rfl) rfl #[.int .u8 (bt a0 x5_1)] rfl (by (try simp only [List.map_toArray, List.map_cons, List.map_nil]); first | done | rfl | (simp only [List.length_drop, List.length_take]; rfl)) ?_; (with_reducible refine (chancelref02_letter.calls (bt a0 x5_1) false _ A20.out).mono ?_); rintro e w' ⟨rfl, ⟨nd, rfl⟩⟩; refine ⟨_, rfl, ?_⟩; have p22 : 0 ≤ (x5_1 : Int) := of_decide_eq_true (by assumption); have q22 : x5_1 < (a0.size : Int) := of_decide_eq_true (by assumption); have hx22 := zqs a0 x5_1; replace p22 := eq_true p22; replace q22 := eq_true q22) | (go_at_call 95; (with_reducible refine (chancelref02_digit.calls (bt a0 x5_1) t340 _ A23.out).mono ?_); rintro e w' ⟨rfl, ⟨nd, rfl⟩⟩))
             go_meet
             case rel => exact ⟨_, (t340), (by first | rfl | (simp [*]; done)), H', ⟨by have := HK1.out; have := HJ3.out; first | omega | exact Nat.le_refl _⟩, ⟨by (with_reducible repeat (first | apply Kd.R_alloc | apply Kd.R_drewN | apply Kd.R_drew)); exact HO_4.out⟩, ⟨by repeat (first | exact HB.out | apply zqb | apply zqa | apply zqc)⟩⟩
           case rest =>
            clear HC18
            try clear c1
            try clear p1
            try clear q1
            try clear hx1
            try clear c2
            try clear c2b0
            try clear c2b1
            try clear p2
            try clear q2
            try clear hx2
            try clear c3
            try clear c3b0
            try clear c5
            try clear c5b0
            try clear p6
            try clear q6
            try clear hx6
            try clear c7
            try clear c7b0
            try clear c7b1
            try clear p8
            try clear q8
            try clear hx8
            try clear c9
            try clear c10
            try clear c10b0
            try clear c11
            try clear c11b0
            try clear p12
            try clear q12
            try clear hx12
            try clear c13
            try clear c13b0
            try clear c13b1
            try clear c14
            try clear c14b0
            try clear c15
            try clear c15b0
            try clear p16
            try clear q16
            try clear hx16
            try clear c17
            try clear c17b0
            try clear c17b1
            try clear p19
            try clear q19
            try clear hx19
            try clear c21
            try clear p22
            try clear q22
            try clear hx22
            try clear p1
            try clear p12
            try clear p16
            try clear p19
            try clear p2
            try clear p22
            try clear p6
            try clear p8
            try clear q1
            try clear q12
            try clear q16
            try clear q19
            try clear q22
            try clear q6
            try clear q8
            obtain ⟨kq, x63_17, rfl, HA, HJ17, HO_4, HB⟩ := hcut
            cases kq with
            | zero => exact absurd HA.out (by simp [chancelref02_Lex.j3])
            | succ kj17 =>
             have H := HA.out
             clear HA
             simp only [chancelref02_Lex.j3] at H
             by_cases c24 : x63_17 = true
             ·subst c24
              have H1 : (chancelref02_Lex.l2 kj17 a0 x4_1 x5_1 x5_1) = some (r1, r2) := by rw [if_pos rfl] at H; exact H
              clear H
              have H := H1
              clear H1
              have H' := Aside0.mk H
              clear H
              go_wp2
              go_loopg [5] kj17 (fun kq v5 w' => ∃ (x5_4 : Int), v5 = .int .i64 x5_4 ∧ Aside0 (chancelref02_Lex.l2 kq a0 x4_1 x5_4 x5_1 = some (r1, r2)) ∧ Aside0 (kq ≤ kj17) ∧ Aside0 (Kd.R k107 107 w' w.heap.size (fun _ => True) u4 x4_1) ∧ Aside0 (Below w.heap.size w w'))
              case atStart => exact ⟨(x5_1), (by first | rfl | (simp [*]; done)), H', ⟨Nat.le_refl _⟩, ⟨by (with_reducible repeat (first | apply Kd.R_alloc | apply Kd.R_drewN | apply Kd.R_drew)); exact HO_4.out⟩, ⟨by repeat (first | exact HB.out | apply zqb | apply zqa | apply zqc)⟩⟩
              case round =>
               clear H'
               try clear c1
               try clear p1
               try clear q1
               try clear hx1
               try clear c2
               try clear c2b0
               try clear c2b1
               try clear p2
               try clear q2
               try clear hx2
               try clear c3
               try clear c3b0
               try clear c5
               try clear c5b0
               try clear p6
               try clear q6
               try clear hx6
               try clear c7
               try clear c7b0
               try clear c7b1
               try clear p8
               try clear q8
               try clear hx8
               try clear c9
               try clear c10
               try clear c10b0
               try clear c11
               try clear c11b0
               try clear p12
               try clear q12
               try clear hx12
               try clear c13
               try clear c13b0
               try clear c13b1
               try clear c14
               try clear c14b0
               try clear c15
               try clear c15b0
               try clear p16
               try clear q16
               try clear hx16
               try clear c17
               try clear c17b0
               try clear c17b1
               try clear p19
               try clear q19
               try clear hx19
               try clear c21
               try clear p22
               try clear q22
               try clear hx22
               try clear c24
               try clear p1
               try clear p12
               try clear p16
               try clear p19
               try clear p2
               try clear p22
               try clear p6
               try clear p8
               try clear q1
               try clear q12
               try clear q16
               try clear q19
               try clear q2
               try clear q22
               try clear q6
               try clear q8
               obtain ⟨x5_4, rfl, HA, HK4, HO_4, HB⟩ := hrel
               cases gk with
               | zero => exact absurd HA.out (by simp [chancelref02_Lex.l2])
               | succ k4 =>
                have H := HA.out
                clear HA
                simp only [chancelref02_Lex.l2] at H
                by_cases c25 : x5_4 < (a0.size : Int)
                ·rw [if_pos c25] at H
                 have c25b0 : decide (x5_4 < (a0.size : Int)) = true := decide_eq_true c25
                 clear c25
                 by_cases c26 : 0 ≤ x5_4
                 ·rw [if_pos c26] at H
                  have c26b0 : decide (0 ≤ x5_4) = true := decide_eq_true c26
                  clear c26
                  replace H := Option.bind_eq_some_iff.mp H
                  obtain ⟨t341, A280, H⟩ := H
                  replace H : (if t341 = true then (chancelref02_Lex.l2 k4 a0 x4_1 (wrap64 (x5_4 + 1)) x5_1) else ((chancelref02_letter.f (bt a0 x5_4)).bind fun t342 => (if t342 = true then (if 0 ≤ x5_1 then (if x5_1 < (a0.size : Int) then ((chancelref02_letter.f (bt a0 x5_1)).bind fun t343 => (if t343 = true then (chancelref02_Lex.l2 k4 a0 x4_1 (wrap64 (x5_4 + 1)) x5_1) else (if x5_1 ≤ x5_4 then (if x5_4 ≤ (a0.size : Int) then ((chancelref02_word.f k4 (a0.extract (x5_1 : Int).toNat (x5_4 : Int).toNat)).bind fun bt344 => (if bt344.2.2.2 = true then (if x4_1.length < 4398046511104 then (chancelref02_Lex.l0 k4 a0 (x4_1 ++ [(⟨bt344.1, bt344.2.1, bt344.2.2.1⟩ : S107)]) x5_4) else (none)) else (some (([] : List (S107)), 2)))) else (none)) else (none)))) else (none)) else (none)) else (if 0 ≤ x5_1 then (if x5_1 ≤ x5_4 then (if x5_4 ≤ (a0.size : Int) then ((chancelref02_word.f k4 (a0.extract (x5_1 : Int).toNat (x5_4 : Int).toNat)).bind fun bt352 => (if bt352.2.2.2 = true then (if x4_1.length < 4398046511104 then (chancelref02_Lex.l0 k4 a0 (x4_1 ++ [(⟨bt352.1, bt352.2.1, bt352.2.2.1⟩ : S107)]) x5_4) else (none)) else (some (([] : List (S107)), 2)))) else (none)) else (none)) else (none))))) = some (r1, r2) := H
                  have A28 := Aside0.mk A280
                  clear A280
                  by_cases c29 : t341 = true
                  ·subst c29
                   have H1 : (chancelref02_Lex.l2 k4 a0 x4_1 (wrap64 (x5_4 + 1)) x5_1) = some (r1, r2) := by rw [if_pos rfl] at H; exact H
                   clear H
                   have H := H1
                   clear H1
                   have H' := Aside0.mk H
                   clear H
                   have p27 : 0 ≤ (x5_4 : Int) := of_decide_eq_true (by assumption)
                   have q27 : x5_4 < (a0.size : Int) := of_decide_eq_true (by assumption)
                   have hx27 := zqs a0 x5_4
                   replace p27 := eq_true p27
                   replace q27 := eq_true q27
                   go_wp2_with (first | (go_at_call 95; (with_reducible refine (chancelref02_digit.calls (bt a0 x5_4) true _ A28.out).mono ?_); rintro e w' ⟨rfl, ⟨nd, rfl⟩⟩))
                   go_roundg k4
                   case measure => have := HK1.out; have := HJ3.out; have := HJ17.out; have := HK4.out; omega
                   case rel => exact ⟨(wrap64 (x5_4 + 1)), (by first | rfl | (simp [*]; done)), H', ⟨by have := HK1.out; have := HJ3.out; have := HJ17.out; have := HK4.out; omega⟩, ⟨by (with_reducible repeat (first | apply Kd.R_alloc | apply Kd.R_drewN | apply Kd.R_drew)); exact HO_4.out⟩, ⟨by repeat (first | exact HB.out | apply zqb | apply zqa | apply zqc)⟩⟩
                  ·replace c29 := Bool.eq_false_iff.mpr c29
                   subst c29
                   have H1 : ((chancelref02_letter.f (bt a0 x5_4)).bind fun t342 => (if t342 = true then (if 0 ≤ x5_1 then (if x5_1 < (a0.size : Int) then ((chancelref02_letter.f (bt a0 x5_1)).bind fun t343 => (if t343 = true then (chancelref02_Lex.l2 k4 a0 x4_1 (wrap64 (x5_4 + 1)) x5_1) else (if x5_1 ≤ x5_4 then (if x5_4 ≤ (a0.size : Int) then ((chancelref02_word.f k4 (a0.extract (x5_1 : Int).toNat (x5_4 : Int).toNat)).bind fun bt344 => (if bt344.2.2.2 = true then (if x4_1.length < 4398046511104 then (chancelref02_Lex.l0 k4 a0 (x4_1 ++ [(⟨bt344.1, bt344.2.1, bt344.2.2.1⟩ : S107)]) x5_4) else (none)) else (some (([] : List (S107)), 2)))) else (none)) else (none)))) else (none)) else (none)) else (if 0 ≤ x5_1 then (if x5_1 ≤ x5_4 then (if x5_4 ≤ (a0.size : Int) then ((chancelref02_word.f k4 (a0.extract (x5_1 : Int).toNat (x5_4 : Int).toNat)).bind fun bt352 => (if bt352.2.2.2 = true then (if x4_1.length < 4398046511104 then (chancelref02_Lex.l0 k4 a0 (x4_1 ++ [(⟨bt352.1, bt352.2.1, bt352.2.2.1⟩ : S107)]) x5_4) else (none)) else (some (([] : List (S107)), 2)))) else (none)) else (none)) else (none)))) = some (r1, r2) := by rw [if_neg (show ¬ (false = true) by decide)] at H; exact H
                   clear H
                   have H := H1
                   clear H1
                   replace H := Option.bind_eq_some_iff.mp H
                   obtain ⟨t342, A310, H⟩ := H
                   replace H : (if t342 = true then (if 0 ≤ x5_1 then (if x5_1 < (a0.size : Int) then ((chancelref02_letter.f (bt a0 x5_1)).bind fun t343 => (if t343 = true then (chancelref02_Lex.l2 k4 a0 x4_1 (wrap64 (x5_4 + 1)) x5_1) else (if x5_1 ≤ x5_4 then (if x5_4 ≤ (a0.size : Int) then ((chancelref02_word.f k4 (a0.extract (x5_1 : Int).toNat (x5_4 : Int).toNat)).bind fun bt344 => (if bt344.2.2.2 = true then (if x4_1.length < 4398046511104 then (chancelref02_Lex.l0 k4 a0 (x4_1 ++ [(⟨bt344.1, bt344.2.1, bt344.2.2.1⟩ : S107)]) x5_4) else (none)) else (some (([] : List (S107)), 2)))) else (none)) else (none)))) else (none)) else (none)) else (if 0 ≤ x5_1 then (if x5_1 ≤ x5_4 then (if x5_4 ≤ (a0.size : Int) then ((chancelref02_word.f k4 (a0.extract (x5_1 : Int).toNat (x5_4 : Int).toNat)).bind fun bt352 => (if bt352.2.2.2 = true then (if x4_1.length < 4398046511104 then (chancelref02_Lex.l0 k4 a0 (x4_1 ++ [(⟨bt352.1, bt352.2.1, bt352.2.2.1⟩ : S107)]) x5_4) else (none)) else (some (([] : List (S107)), 2)))) else (none)) else (none)) else (none))) = some (r1, r2) := H
                   have A31 := Aside0.mk A310
                   clear A310
                   by_cases c32 : t342 = true
                   ·subst c32
                    have H1 : (if 0 ≤ x5_1 then (if x5_1 < (a0.size : Int) then ((chancelref02_letter.f (bt a0 x5_1)).bind fun t343 => (if t343 = true then (chancelref02_Lex.l2 k4 a0 x4_1 (wrap64 (x5_4 + 1)) x5_1) else (if x5_1 ≤ x5_4 then (if x5_4 ≤ (a0.size : Int) then ((chancelref02_word.f k4 (a0.extract (x5_1 : Int).toNat (x5_4 : Int).toNat)).bind fun bt344 => (if bt344.2.2.2 = true then (if x4_1.length < 4398046511104 then (chancelref02_Lex.l0 k4 a0 (x4_1 ++ [(⟨bt344.1, bt344.2.1, bt344.2.2.1⟩ : S107)]) x5_4) else (none)) else (some (([] : List (S107)), 2)))) else (none)) else (none)))) else (none)) else (none)) = some (r1, r2) := by rw [if_pos rfl] at H; exact H
                    clear H
                    have H := H1
                    clear H1
                    by_cases c33 : 0 ≤ x5_1
                    ·rw [if_pos c33] at H
                     have c33b0 : decide (0 ≤ x5_1) = true := decide_eq_true c33
                     clear c33
                     by_cases c34 : x5_1 < (a0.size : Int)
                     ·rw [if_pos c34] at H
                      have c34b0 : decide (x5_1 < (a0.size : Int)) = true := decide_eq_true c34
                      clear c34
                      replace H := Option.bind_eq_some_iff.mp H
                      obtain ⟨t343, A360, H⟩ := H
                      replace H : (if t343 = true then (chancelref02_Lex.l2 k4 a0 x4_1 (wrap64 (x5_4 + 1)) x5_1) else (if x5_1 ≤ x5_4 then (if x5_4 ≤ (a0.size : Int) then ((chancelref02_word.f k4 (a0.extract (x5_1 : Int).toNat (x5_4 : Int).toNat)).bind fun bt344 => (if bt344.2.2.2 = true then (if x4_1.length < 4398046511104 then (chancelref02_Lex.l0 k4 a0 (x4_1 ++ [(⟨bt344.1, bt344.2.1, bt344.2.2.1⟩ : S107)]) x5_4) else (none)) else (some (([] : List (S107)), 2)))) else (none)) else (none))) = some (r1, r2) := H
                      have A36 := Aside0.mk A360
                      clear A360
                      by_cases c37 : t343 = true
                      ·subst c37
                       have H1 : (chancelref02_Lex.l2 k4 a0 x4_1 (wrap64 (x5_4 + 1)) x5_1) = some (r1, r2) := by rw [if_pos rfl] at H; exact H
                       clear H
                       have H := H1
                       clear H1
                       have H' := Aside0.mk H
                       clear H
                       have p27 : 0 ≤ (x5_4 : Int) := of_decide_eq_true (by assumption)
                       have q27 : x5_4 < (a0.size : Int) := of_decide_eq_true (by assumption)
                       have hx27 := zqs a0 x5_4
                       replace p27 := eq_true p27
                       replace q27 := eq_true q27
                       go_wp2_with (first | (go_at_call 95; (with_reducible refine (chancelref02_digit.calls (bt a0 x5_4) false _ A28.out).mono ?_); rintro e w' ⟨rfl, ⟨nd, rfl⟩⟩; have p30 : 0 ≤ (x5_4 : Int) := of_decide_eq_true (by assumption); have q30 : x5_4 < (a0.size : Int) := of_decide_eq_true (by assumption); have hx30 := zqs a0 x5_4; replace p30 := eq_true p30; replace q30 := eq_true q30) | (go_at_call 94; (with_reducible refine (chancelref02_letter.calls (bt a0 x5_4) true _ A31.out).mono ?_); rintro e w' ⟨rfl, ⟨nd, rfl⟩⟩; have p35 : 0 ≤ (x5_1 : Int) := of_decide_eq_true (by assumption); have q35 : x5_1 < (a0.size : Int) := of_decide_eq_true (by assumption); have hx35 := zqs a0 x5_1; replace p35 := eq_true p35; replace q35 := eq_true q35) | (go_at_call 94; (with_reducible refine (chancelref02_letter.calls (bt a0 x5_1) true _ A36.out).mono ?_); rintro e w' ⟨rfl, ⟨nd, rfl⟩⟩))
                       go_roundg k4
                       case measure => have := HK1.out; have := HJ3.out; have := HJ17.out; have := HK4.out; omega
                       case rel => exact ⟨(wrap64 (x5_4 + 1)), (by first | rfl | (simp [*]; done)), H', ⟨by have := HK1.out; have := HJ3.out; have := HJ17.out; have := HK4.out; omega⟩, ⟨by (with_reducible repeat (first | apply Kd.R_alloc | apply Kd.R_drewN | apply Kd.R_drew)); exact HO_4.out⟩, ⟨by repeat (first | exact HB.out | apply zqb | apply zqa | apply zqc)⟩⟩
                      ·replace c37 := Bool.eq_false_iff.mpr c37
                       subst c37
                       have H1 : (if x5_1 ≤ x5_4 then (if x5_4 ≤ (a0.size : Int) then ((chancelref02_word.f k4 (a0.extract (x5_1 : Int).toNat (x5_4 : Int).toNat)).bind fun bt344 => (if bt344.2.2.2 = true then (if x4_1.length < 4398046511104 then (chancelref02_Lex.l0 k4 a0 (x4_1 ++ [(⟨bt344.1, bt344.2.1, bt344.2.2.1⟩ : S107)]) x5_4) else (none)) else (some (([] : List (S107)), 2)))) else (none)) else (none)) = some (r1, r2) := by rw [if_neg (show ¬ (false = true) by decide)] at H; exact H
                       clear H
                       have H := H1
                       clear H1
                       have c38b0 := eq_true (of_decide_eq_true (by assumption) : 0 ≤ x5_1)
                       by_cases c39 : x5_1 ≤ x5_4
                       ·rw [if_pos c39] at H
                        have c39b0 := eq_true c39
                        have c39b1 : decide (x5_1 ≤ x5_4) = true := decide_eq_true c39
                        clear c39
                        by_cases c40 : x5_4 ≤ (a0.size : Int)
                        ·rw [if_pos c40] at H
                         have c40b0 := eq_true c40
                         have c40b1 : decide (x5_4 ≤ (a0.size : Int)) = true := decide_eq_true c40
                         clear c40
                         replace H := Option.bind_eq_some_iff.mp H
                         obtain ⟨⟨t344, t345, t346, t347⟩, A410, H⟩ := H
                         replace H : (if t347 = true then (if x4_1.length < 4398046511104 then (chancelref02_Lex.l0 k4 a0 (x4_1 ++ [(⟨t344, t345, t346⟩ : S107)]) x5_4) else (none)) else (some (([] : List (S107)), 2))) = some (r1, r2) := H
                         have A41 := Aside0.mk A410
                         clear A410
                         by_cases c42 : t347 = true
                         ·subst c42
                          have H1 : (if x4_1.length < 4398046511104 then (chancelref02_Lex.l0 k4 a0 (x4_1 ++ [(⟨t344, t345, t346⟩ : S107)]) x5_4) else (none)) = some (r1, r2) := by rw [if_pos rfl] at H; exact H
                          clear H
                          have H := H1
                          clear H1
                          by_cases c43 : x4_1.length < 4398046511104
                          ·rw [if_pos c43] at H
                           have LMc43 := Aside0.mk c43
                           clear c43
                           obtain ⟨y349, hy349⟩ : ∃ y_ : List (S107), y_ = (x4_1 ++ [(⟨t344, t345, t346⟩ : S107)]) := ⟨_, rfl⟩
                           replace H : (chancelref02_Lex.l0 k4 a0 y349 x5_4) = some (r1, r2) := by first | (rw [hy349]; with_reducible exact H) | (have H2_ := (Option.bind_some _ _).symm.trans H; rw [hy349]; with_reducible exact H2_) | (have H2_ := (Option.bind_some _ _).symm.trans H; with_reducible exact H2_) | with_reducible exact H | (rw [hy349]; exact H) | exact H
                           have Ny349 := Aside0.mk hy349
                           clear hy349
                           have H' := Aside0.mk H
                           clear H
                           have p27 : 0 ≤ (x5_4 : Int) := of_decide_eq_true (by assumption)
                           have q27 : x5_4 < (a0.size : Int) := of_decide_eq_true (by assumption)
                           have hx27 := zqs a0 x5_4
                           replace p27 := eq_true p27
                           replace q27 := eq_true q27
                           go_wp2_with (first | (go_at_call 95; (with_reducible refine (chancelref02_digit.calls (bt a0 x5_4) false _ A28.out).mono ?_); rintro e w' ⟨rfl, ⟨nd, rfl⟩⟩; (try (rw [drewN_self wr]; generalize hq_ : World.drewN wr _ = wr; have n0_ : Aside0 (Kd.R k107 107 wr w.heap.size (fun _ => True) u4 x4_1) := ⟨by rw [← hq_]; exact (by (with_reducible repeat (first | apply Kd.R_alloc | apply Kd.R_drewN | apply Kd.R_drew)); exact HO_4.out)⟩; have n1_ : Aside0 (Below w.heap.size w wr) := ⟨by rw [← hq_]; exact (by repeat (first | exact HB.out | apply zqb | apply zqa | apply zqc))⟩; clear HO_4 HB hq_; have HO_4 := n0_; have HB := n1_; clear n0_ n1_)); have p30 : 0 ≤ (x5_4 : Int) := of_decide_eq_true (by assumption); have q30 : x5_4 < (a0.size : Int) := of_decide_eq_true (by assumption); have hx30 := zqs a0 x5_4; replace p30 := eq_true p30; replace q30 := eq_true q30) | (go_at_call 94; (with_reducible refine (chancelref02_letter.calls (bt a0 x5_4) true _ A31.out).mono ?_); rintro e w' ⟨rfl, ⟨nd, rfl⟩⟩; (try (rw [drewN_self wr]; generalize hq_ : World.drewN wr _ = wr; have n0_ : Aside0 (Kd.R k107 107 wr w.heap.size (fun _ => True) u4 x4_1) := ⟨by rw [← hq_]; exact (by (with_reducible repeat (first | apply Kd.R_alloc | apply Kd.R_drewN | apply Kd.R_drew)); exact HO_4.out)⟩; have n1_ : Aside0 (Below w.heap.size w wr) := ⟨by rw [← hq_]; exact (by repeat (first | exact HB.out | apply zqb | apply zqa | apply zqc))⟩; clear HO_4 HB hq_; have HO_4 := n0_; have HB := n1_; clear n0_ n1_)); have p35 : 0 ≤ (x5_1 : Int) := of_decide_eq_true (by assumption); have q35 : x5_1 < (a0.size : Int) := of_decide_eq_true (by assumption); have hx35 := zqs a0 x5_1; replace p35 := eq_true p35; replace q35 := eq_true q35) | (go_at_call 94; (with_reducible refine (chancelref02_letter.calls (bt a0 x5_1) false _ A36.out).mono ?_); rintro e w' ⟨rfl, ⟨nd, rfl⟩⟩; (try (rw [drewN_self wr]; generalize hq_ : World.drewN wr _ = wr; have n0_ : Aside0 (Kd.R k107 107 wr w.heap.size (fun _ => True) u4 x4_1) := ⟨by rw [← hq_]; exact (by (with_reducible repeat (first | apply Kd.R_alloc | apply Kd.R_drewN | apply Kd.R_drew)); exact HO_4.out)⟩; have n1_ : Aside0 (Below w.heap.size w wr) := ⟨by rw [← hq_]; exact (by repeat (first | exact HB.out | apply zqb | apply zqa | apply zqc))⟩; clear HO_4 HB hq_; have HO_4 := n0_; have HB := n1_; clear n0_ n1_))) | ((with_reducible refine zqo (f := 96) rfl ?_); refine zqD (some 103) rfl rfl Tryz.func96 (by kernel_rfl) rfl #[.string (a0.extract (x5_1 : Int).toNat (x5_4 : Int).toNat)] rfl (by (try simp only [List.map_toArray, List.map_cons, List.map_nil]); first | done | rfl | (simp only [List.length_drop, List.length_take]; rfl)) ?_; (with_reducible refine (chancelref02_word.calls k4 (a0.extract (x5_1 : Int).toNat (x5_4 : Int).toNat) t344 t345 t346 true _ A41.out).mono ?_); rintro e w44 ⟨rfl, hb⟩; refine ⟨_, rfl, ?_⟩; have n0_ := Aside0.mk (Kd.R_below (by (with_reducible repeat (first | apply Kd.R_alloc | apply Kd.R_drewN | apply Kd.R_drew)); exact HO_4.out) hb); have n1_ := Aside0.mk (zqk (by repeat (first | exact HB.out | apply zqb | apply zqa | apply zqc)) hb); clear HO_4; clear HB; have HO_4 := n0_; have HB := n1_; clear n0_ n1_; (try clear hb); (try clear hb2); (try clear hk); (try clear hi)) | ((with_reducible refine zqr (N := 7) rfl ?_); refine zqp ?hg (N := 7) ?hd (cs := #[.int .i64 0, .string (⟨#[]⟩ : ByteArray), .int .i64 0]) (t := 107) ?hr ?_; (case hd => rfl); (case hg => rfl); (case hr => first | (go_simp; done) | (go_simp; rfl)); intro gb348 hg w45 hbox hb; have n0_ := Aside0.mk (Kd.R_below (Kd.R_elderB (by (with_reducible repeat (first | apply Kd.R_alloc | apply Kd.R_drewN | apply Kd.R_drew)); exact HO_4.out) gb348 (Nat.le_of_eq hg.symm)) hb); have n1_ := Aside0.mk (zqk (by repeat (first | exact HB.out | apply zqb | apply zqa | apply zqc)) hb); have n2_ := Aside0.mk (hbox); have n3_ := Aside0.mk ((by rw [hg]; exact (zqj (by repeat (first | exact HB.out | apply zqb | apply zqa | apply zqc))) : w.heap.size ≤ gb348)); have n4_ := Aside0.mk ((by rw [hg]; exact (zqj (by repeat (first | exact HB.out | apply zqb | apply zqa | apply zqc))) : w.heap.size ≤ gb348)); clear HO_4; clear HB; have HO_4 := n0_; have HB := n1_; have BK348 := n2_; have GW348 := n3_; have GE348 := n4_; clear n0_ n1_ n2_ n3_ n4_; clear hb hbox hg; have hcz46_0 : w45.cell? ⟨gb348, 0, none⟩ = some (.int .i64 0) := (zqf BK348.out 0).trans rfl; have hcz46_1 : w45.cell? ⟨gb348, 1, none⟩ = some (.string (⟨#[]⟩ : ByteArray)) := (zqf BK348.out 1).trans rfl; have hcz46_2 : w45.cell? ⟨gb348, 2, none⟩ = some (.int .i64 0) := (zqf BK348.out 2).trans rfl; have hfz46_0 := zqd BK348.out 0; have hfz46_1 := zqd BK348.out 1; have hfz46_2 := zqd BK348.out 2) | ((with_reducible refine gate_builtin (b := .append) (xs := #[.tmp 108, .tmp 110]) rfl ?_); at_builtin; refine Kd.R_append k107 (w0 := w) w.heap.size rfl (.tmp 108) (.tmp 110) 35 107 (.agg #[(.int .i64 0), (.string ⟨#[]⟩), (.int .i64 0)]) 32 rfl Tryz.underlying35 info107 rfl (by decide) (by omega) u4 x4_1 (⟨t344, t345, t346⟩ : S107) [.int .i64 t344, .string t345, .int .i64 t346] (fun k_ => k_ ≠ gb348) (fun _ => False) rfl (by first | (go_simp; done) | (go_simp; rfl)) ?aP (fun _ hk => hk.elim) ?aF ?aO ?aB ?aS ?aL ?_; (case aP => exact k107_mkM _ _ _ (⟨t344, t345, t346⟩ : S107)); (case aB => exact (by repeat (first | (with_reducible first | exact HB.out | apply zqb | apply zqa | apply zqc | refine zqh ?_ GE348.out) | exact HB.out))); (case aF => exact (fun k_ hk => Kd.freshB (g := gb348) (o := .cells #[.int .i64 t344, .string t345, .int .i64 t346] 107 (0, 0)) (by (with_reducible repeat (first | apply zqg | apply zqi | apply zqe)); refine zqq (cs := #[.int .i64 t344, .string t345, .int .i64 0]) ?_ 2 _ rfl; (with_reducible repeat (first | apply zqg | apply zqi | apply zqe)); refine zqq (cs := #[.int .i64 t344, .string (⟨#[]⟩ : ByteArray), .int .i64 0]) ?_ 1 _ rfl; (with_reducible repeat (first | apply zqg | apply zqi | apply zqe)); refine zqq (cs := #[.int .i64 0, .string (⟨#[]⟩ : ByteArray), .int .i64 0]) ?_ 0 _ rfl; (with_reducible repeat (first | apply zqg | apply zqi | apply zqe)); exact BK348.out) k_ hk)); (case aO => exact (by (with_reducible repeat (first | apply Kd.R_alloc | apply Kd.R_drewN | apply Kd.R_drew)); exact Kd.R_mono (Kd.R_far (p := ⟨gb348, 2, none⟩) (Kd.R_far (p := ⟨gb348, 1, none⟩) (Kd.R_far (p := ⟨gb348, 0, none⟩) (Kd.R_mono HO_4.out (fun k_ hk => (⟨hk, hk.2⟩ : _ ∧ k_ ≠ gb348))) (fun _ hk => hk.2) (.int .i64 t344)) (fun _ hk => hk.2) (.string t345)) (fun _ hk => hk.2) (.int .i64 t346)) (fun _ hk => hk.1.2))); (case aS => exact (zqj (by repeat (first | (with_reducible first | exact HB.out | apply zqb | apply zqa | apply zqc | refine zqh ?_ GE348.out) | exact HB.out)))); (case aL => have := LMc43.out; omega); intro v350 w47 ho hb hg hat; rw [← Ny349.out] at ho; have n0_ := Aside0.mk (blk_grown (g := gb348) (o := .cells #[.int .i64 t344, .string t345, .int .i64 t346] 107 (0, 0)) (by (with_reducible repeat (first | apply zqg | apply zqi | apply zqe)); refine zqq (cs := #[.int .i64 t344, .string t345, .int .i64 0]) ?_ 2 _ rfl; (with_reducible repeat (first | apply zqg | apply zqi | apply zqe)); refine zqq (cs := #[.int .i64 t344, .string (⟨#[]⟩ : ByteArray), .int .i64 0]) ?_ 1 _ rfl; (with_reducible repeat (first | apply zqg | apply zqi | apply zqe)); refine zqq (cs := #[.int .i64 0, .string (⟨#[]⟩ : ByteArray), .int .i64 0]) ?_ 0 _ rfl; (with_reducible repeat (first | apply zqg | apply zqi | apply zqe)); exact BK348.out) hg (Kd.R_away HO_4.out (fun _ hk => hk.2))); have n1_ := Aside0.mk (hb); have n2_ := Aside0.mk (ho); clear BK348; clear HB; clear HO_4; have BK348 := n0_; have HB := n1_; have HO351 := n2_; clear n0_ n1_ n2_; clear ho hb hg hat))
                           go_roundg k4
                           case measure => have := HK1.out; have := HJ3.out; have := HJ17.out; have := HK4.out; omega
                           case rel => exact ⟨(y349), (x5_4), (by first | rfl | (simp [*]; done)), H', ⟨by have := HK1.out; have := HJ3.out; have := HJ17.out; have := HK4.out; omega⟩, ⟨by (with_reducible repeat (first | apply Kd.R_alloc | apply Kd.R_drewN | apply Kd.R_drew)); exact Kd.R_mono HO351.out (fun _ hk => trivial)⟩, ⟨by repeat (first | (with_reducible first | exact HB.out | apply zqb | apply zqa | apply zqc | refine zqh ?_ GE348.out) | exact HB.out)⟩⟩
                          ·rw [if_neg c43] at H
                           exact absurd H (by simp)
                         ·replace c42 := Bool.eq_false_iff.mpr c42
                          subst c42
                          have H1 : (some (([] : List (S107)), 2)) = some (r1, r2) := by rw [if_neg (show ¬ (false = true) by decide)] at H; exact H
                          clear H
                          have H := H1
                          clear H1
                          simp only [Option.some.injEq, Prod.mk.injEq] at H
                          obtain ⟨rfl, rfl⟩ := H
                          have p27 : 0 ≤ (x5_4 : Int) := of_decide_eq_true (by assumption)
                          have q27 : x5_4 < (a0.size : Int) := of_decide_eq_true (by assumption)
                          have hx27 := zqs a0 x5_4
                          replace p27 := eq_true p27
                          replace q27 := eq_true q27
                          go_wp2_with (first | (go_at_call 95; (with_reducible refine (chancelref02_digit.calls (bt a0 x5_4) false _ A28.out).mono ?_); rintro e w' ⟨rfl, ⟨nd, rfl⟩⟩; (try (rw [drewN_self wr]; generalize hq_ : World.drewN wr _ = wr; have n0_ : Aside0 (Kd.R k107 107 wr w.heap.size (fun _ => True) u4 x4_1) := ⟨by rw [← hq_]; exact (by (with_reducible repeat (first | apply Kd.R_alloc | apply Kd.R_drewN | apply Kd.R_drew)); exact HO_4.out)⟩; have n1_ : Aside0 (Below w.heap.size w wr) := ⟨by rw [← hq_]; exact (by repeat (first | exact HB.out | apply zqb | apply zqa | apply zqc))⟩; clear HO_4 HB hq_; have HO_4 := n0_; have HB := n1_; clear n0_ n1_)); have p30 : 0 ≤ (x5_4 : Int) := of_decide_eq_true (by assumption); have q30 : x5_4 < (a0.size : Int) := of_decide_eq_true (by assumption); have hx30 := zqs a0 x5_4; replace p30 := eq_true p30; replace q30 := eq_true q30) | (go_at_call 94; (with_reducible refine (chancelref02_letter.calls (bt a0 x5_4) true _ A31.out).mono ?_); rintro e w' ⟨rfl, ⟨nd, rfl⟩⟩; (try (rw [drewN_self wr]; generalize hq_ : World.drewN wr _ = wr; have n0_ : Aside0 (Kd.R k107 107 wr w.heap.size (fun _ => True) u4 x4_1) := ⟨by rw [← hq_]; exact (by (with_reducible repeat (first | apply Kd.R_alloc | apply Kd.R_drewN | apply Kd.R_drew)); exact HO_4.out)⟩; have n1_ : Aside0 (Below w.heap.size w wr) := ⟨by rw [← hq_]; exact (by repeat (first | exact HB.out | apply zqb | apply zqa | apply zqc))⟩; clear HO_4 HB hq_; have HO_4 := n0_; have HB := n1_; clear n0_ n1_)); have p35 : 0 ≤ (x5_1 : Int) := of_decide_eq_true (by assumption); have q35 : x5_1 < (a0.size : Int) := of_decide_eq_true (by assumption); have hx35 := zqs a0 x5_1; replace p35 := eq_true p35; replace q35 := eq_true q35) | (go_at_call 94; (with_reducible refine (chancelref02_letter.calls (bt a0 x5_1) false _ A36.out).mono ?_); rintro e w' ⟨rfl, ⟨nd, rfl⟩⟩; (try (rw [drewN_self wr]; generalize hq_ : World.drewN wr _ = wr; have n0_ : Aside0 (Kd.R k107 107 wr w.heap.size (fun _ => True) u4 x4_1) := ⟨by rw [← hq_]; exact (by (with_reducible repeat (first | apply Kd.R_alloc | apply Kd.R_drewN | apply Kd.R_drew)); exact HO_4.out)⟩; have n1_ : Aside0 (Below w.heap.size w wr) := ⟨by rw [← hq_]; exact (by repeat (first | exact HB.out | apply zqb | apply zqa | apply zqc))⟩; clear HO_4 HB hq_; have HO_4 := n0_; have HB := n1_; clear n0_ n1_))) | ((with_reducible refine zqo (f := 96) rfl ?_); refine zqD (some 103) rfl rfl Tryz.func96 (by kernel_rfl) rfl #[.string (a0.extract (x5_1 : Int).toNat (x5_4 : Int).toNat)] rfl (by (try simp only [List.map_toArray, List.map_cons, List.map_nil]); first | done | rfl | (simp only [List.length_drop, List.length_take]; rfl)) ?_; (with_reducible refine (chancelref02_word.calls k4 (a0.extract (x5_1 : Int).toNat (x5_4 : Int).toNat) t344 t345 t346 false _ A41.out).mono ?_); rintro e w48 ⟨rfl, hb⟩; refine ⟨_, rfl, ?_⟩; have n0_ := Aside0.mk (Kd.R_below (by (with_reducible repeat (first | apply Kd.R_alloc | apply Kd.R_drewN | apply Kd.R_drew)); exact HO_4.out) hb); have n1_ := Aside0.mk (zqk (by repeat (first | exact HB.out | apply zqb | apply zqa | apply zqc)) hb); clear HO_4; clear HB; have HO_4 := n0_; have HB := n1_; clear n0_ n1_; (try clear hb); (try clear hb2); (try clear hk); (try clear hi)) | ((with_reducible refine zqr (N := 7) rfl ?_); refine zqp ?hg (N := 7) ?hd (cs := #[.int .i64 0, .string (⟨#[]⟩ : ByteArray), .int .i64 0]) (t := 107) ?hr ?_; (case hd => rfl); (case hg => rfl); (case hr => first | (go_simp; done) | (go_simp; rfl)); intro gb348 hg w49 hbox hb; have n0_ := Aside0.mk (Kd.R_below (Kd.R_elderB (by (with_reducible repeat (first | apply Kd.R_alloc | apply Kd.R_drewN | apply Kd.R_drew)); exact HO_4.out) gb348 (Nat.le_of_eq hg.symm)) hb); have n1_ := Aside0.mk (zqk (by repeat (first | exact HB.out | apply zqb | apply zqa | apply zqc)) hb); have n2_ := Aside0.mk (hbox); have n3_ := Aside0.mk ((by rw [hg]; exact (zqj (by repeat (first | exact HB.out | apply zqb | apply zqa | apply zqc))) : w.heap.size ≤ gb348)); have n4_ := Aside0.mk ((by rw [hg]; exact (zqj (by repeat (first | exact HB.out | apply zqb | apply zqa | apply zqc))) : w.heap.size ≤ gb348)); clear HO_4; clear HB; have HO_4 := n0_; have HB := n1_; have BK348 := n2_; have GW348 := n3_; have GE348 := n4_; clear n0_ n1_ n2_ n3_ n4_; clear hb hbox hg; have hcz50_0 : w49.cell? ⟨gb348, 0, none⟩ = some (.int .i64 0) := (zqf BK348.out 0).trans rfl; have hcz50_1 : w49.cell? ⟨gb348, 1, none⟩ = some (.string (⟨#[]⟩ : ByteArray)) := (zqf BK348.out 1).trans rfl; have hcz50_2 : w49.cell? ⟨gb348, 2, none⟩ = some (.int .i64 0) := (zqf BK348.out 2).trans rfl; have hfz50_0 := zqd BK348.out 0; have hfz50_1 := zqd BK348.out 1; have hfz50_2 := zqd BK348.out 2))
                          go_ret2
                          exact ⟨_, by first | rfl | (simp [zqm, zql] <;> rfl) | (simp [*, zqm, zql] <;> rfl), by first | exact Kd.R_nil _ _ _ _ _ | exact Kd.N_nil _ _ _ _ _ | exact Kd.V_nil _ _ _ _ _ | exact Kd.Q_nil _ _ _ _ _ | exact Kd.S_nil _ _ _ _ _, by repeat (first | (with_reducible first | exact HB.out | apply zqb | apply zqa | apply zqc | refine zqh ?_ GE348.out) | exact HB.out)⟩
                        ·rw [if_neg c40] at H
                         exact absurd H (by simp)
                       ·rw [if_neg c39] at H
                        exact absurd H (by simp)
                     ·rw [if_neg c34] at H
                      exact absurd H (by simp)
                    ·rw [if_neg c33] at H
                     exact absurd H (by simp)
                   ·replace c32 := Bool.eq_false_iff.mpr c32
                    subst c32
                    have H1 : (if 0 ≤ x5_1 then (if x5_1 ≤ x5_4 then (if x5_4 ≤ (a0.size : Int) then ((chancelref02_word.f k4 (a0.extract (x5_1 : Int).toNat (x5_4 : Int).toNat)).bind fun bt352 => (if bt352.2.2.2 = true then (if x4_1.length < 4398046511104 then (chancelref02_Lex.l0 k4 a0 (x4_1 ++ [(⟨bt352.1, bt352.2.1, bt352.2.2.1⟩ : S107)]) x5_4) else (none)) else (some (([] : List (S107)), 2)))) else (none)) else (none)) else (none)) = some (r1, r2) := by rw [if_neg (show ¬ (false = true) by decide)] at H; exact H
                    clear H
                    have H := H1
                    clear H1
                    by_cases c51 : 0 ≤ x5_1
                    ·rw [if_pos c51] at H
                     have c51b0 := eq_true c51
                     have c51b1 : decide (0 ≤ x5_1) = true := decide_eq_true c51
                     clear c51
                     by_cases c52 : x5_1 ≤ x5_4
                     ·rw [if_pos c52] at H
                      have c52b0 := eq_true c52
                      have c52b1 : decide (x5_1 ≤ x5_4) = true := decide_eq_true c52
                      clear c52
                      by_cases c53 : x5_4 ≤ (a0.size : Int)
                      ·rw [if_pos c53] at H
                       have c53b0 := eq_true c53
                       have c53b1 : decide (x5_4 ≤ (a0.size : Int)) = true := decide_eq_true c53
                       clear c53
                       replace H := Option.bind_eq_some_iff.mp H
                       obtain ⟨⟨t352, t353, t354, t355⟩, A540, H⟩ := H
                       replace H : (if t355 = true then (if x4_1.length < 4398046511104 then (chancelref02_Lex.l0 k4 a0 (x4_1 ++ [(⟨t352, t353, t354⟩ : S107)]) x5_4) else (none)) else (some (([] : List (S107)), 2))) = some (r1, r2) := H
                       have A54 := Aside0.mk A540
                       clear A540
                       by_cases c55 : t355 = true
                       ·subst c55
                        have H1 : (if x4_1.length < 4398046511104 then (chancelref02_Lex.l0 k4 a0 (x4_1 ++ [(⟨t352, t353, t354⟩ : S107)]) x5_4) else (none)) = some (r1, r2) := by rw [if_pos rfl] at H; exact H
                        clear H
                        have H := H1
                        clear H1
                        by_cases c56 : x4_1.length < 4398046511104
                        ·rw [if_pos c56] at H
                         have LMc56 := Aside0.mk c56
                         clear c56
                         obtain ⟨y357, hy357⟩ : ∃ y_ : List (S107), y_ = (x4_1 ++ [(⟨t352, t353, t354⟩ : S107)]) := ⟨_, rfl⟩
                         replace H : (chancelref02_Lex.l0 k4 a0 y357 x5_4) = some (r1, r2) := by first | (rw [hy357]; with_reducible exact H) | (have H2_ := (Option.bind_some _ _).symm.trans H; rw [hy357]; with_reducible exact H2_) | (have H2_ := (Option.bind_some _ _).symm.trans H; with_reducible exact H2_) | with_reducible exact H | (rw [hy357]; exact H) | exact H
                         have Ny357 := Aside0.mk hy357
                         clear hy357
                         have H' := Aside0.mk H
                         clear H
                         have p27 : 0 ≤ (x5_4 : Int) := of_decide_eq_true (by assumption)
                         have q27 : x5_4 < (a0.size : Int) := of_decide_eq_true (by assumption)
                         have hx27 := zqs a0 x5_4
                         replace p27 := eq_true p27
                         replace q27 := eq_true q27
                         go_wp2_with (first | (go_at_call 95; (with_reducible refine (chancelref02_digit.calls (bt a0 x5_4) false _ A28.out).mono ?_); rintro e w' ⟨rfl, ⟨nd, rfl⟩⟩; (try (rw [drewN_self wr]; generalize hq_ : World.drewN wr _ = wr; have n0_ : Aside0 (Kd.R k107 107 wr w.heap.size (fun _ => True) u4 x4_1) := ⟨by rw [← hq_]; exact (by (with_reducible repeat (first | apply Kd.R_alloc | apply Kd.R_drewN | apply Kd.R_drew)); exact HO_4.out)⟩; have n1_ : Aside0 (Below w.heap.size w wr) := ⟨by rw [← hq_]; exact (by repeat (first | exact HB.out | apply zqb | apply zqa | apply zqc))⟩; clear HO_4 HB hq_; have HO_4 := n0_; have HB := n1_; clear n0_ n1_)); have p30 : 0 ≤ (x5_4 : Int) := of_decide_eq_true (by assumption); have q30 : x5_4 < (a0.size : Int) := of_decide_eq_true (by assumption); have hx30 := zqs a0 x5_4; replace p30 := eq_true p30; replace q30 := eq_true q30) | (go_at_call 94; (with_reducible refine (chancelref02_letter.calls (bt a0 x5_4) false _ A31.out).mono ?_); rintro e w' ⟨rfl, ⟨nd, rfl⟩⟩; (try (rw [drewN_self wr]; generalize hq_ : World.drewN wr _ = wr; have n0_ : Aside0 (Kd.R k107 107 wr w.heap.size (fun _ => True) u4 x4_1) := ⟨by rw [← hq_]; exact (by (with_reducible repeat (first | apply Kd.R_alloc | apply Kd.R_drewN | apply Kd.R_drew)); exact HO_4.out)⟩; have n1_ : Aside0 (Below w.heap.size w wr) := ⟨by rw [← hq_]; exact (by repeat (first | exact HB.out | apply zqb | apply zqa | apply zqc))⟩; clear HO_4 HB hq_; have HO_4 := n0_; have HB := n1_; clear n0_ n1_))) | ((with_reducible refine zqo (f := 96) rfl ?_); refine zqD (some 103) rfl rfl Tryz.func96 (by kernel_rfl) rfl #[.string (a0.extract (x5_1 : Int).toNat (x5_4 : Int).toNat)] rfl (by (try simp only [List.map_toArray, List.map_cons, List.map_nil]); first | done | rfl | (simp only [List.length_drop, List.length_take]; rfl)) ?_; (with_reducible refine (chancelref02_word.calls k4 (a0.extract (x5_1 : Int).toNat (x5_4 : Int).toNat) t352 t353 t354 true _ A54.out).mono ?_); rintro e w57 ⟨rfl, hb⟩; refine ⟨_, rfl, ?_⟩; have n0_ := Aside0.mk (Kd.R_below (by (with_reducible repeat (first | apply Kd.R_alloc | apply Kd.R_drewN | apply Kd.R_drew)); exact HO_4.out) hb); have n1_ := Aside0.mk (zqk (by repeat (first | exact HB.out | apply zqb | apply zqa | apply zqc)) hb); clear HO_4; clear HB; have HO_4 := n0_; have HB := n1_; clear n0_ n1_; (try clear hb); (try clear hb2); (try clear hk); (try clear hi)) | ((with_reducible refine zqr (N := 7) rfl ?_); refine zqp ?hg (N := 7) ?hd (cs := #[.int .i64 0, .string (⟨#[]⟩ : ByteArray), .int .i64 0]) (t := 107) ?hr ?_; (case hd => rfl); (case hg => rfl); (case hr => first | (go_simp; done) | (go_simp; rfl)); intro gb356 hg w58 hbox hb; have n0_ := Aside0.mk (Kd.R_below (Kd.R_elderB (by (with_reducible repeat (first | apply Kd.R_alloc | apply Kd.R_drewN | apply Kd.R_drew)); exact HO_4.out) gb356 (Nat.le_of_eq hg.symm)) hb); have n1_ := Aside0.mk (zqk (by repeat (first | exact HB.out | apply zqb | apply zqa | apply zqc)) hb); have n2_ := Aside0.mk (hbox); have n3_ := Aside0.mk ((by rw [hg]; exact (zqj (by repeat (first | exact HB.out | apply zqb | apply zqa | apply zqc))) : w.heap.size ≤ gb356)); have n4_ := Aside0.mk ((by rw [hg]; exact (zqj (by repeat (first | exact HB.out | apply zqb | apply zqa | apply zqc))) : w.heap.size ≤ gb356)); clear HO_4; clear HB; have HO_4 := n0_; have HB := n1_; have BK356 := n2_; have GW356 := n3_; have GE356 := n4_; clear n0_ n1_ n2_ n3_ n4_; clear hb hbox hg; have hcz59_0 : w58.cell? ⟨gb356, 0, none⟩ = some (.int .i64 0) := (zqf BK356.out 0).trans rfl; have hcz59_1 : w58.cell? ⟨gb356, 1, none⟩ = some (.string (⟨#[]⟩ : ByteArray)) := (zqf BK356.out 1).trans rfl; have hcz59_2 : w58.cell? ⟨gb356, 2, none⟩ = some (.int .i64 0) := (zqf BK356.out 2).trans rfl; have hfz59_0 := zqd BK356.out 0; have hfz59_1 := zqd BK356.out 1; have hfz59_2 := zqd BK356.out 2) | ((with_reducible refine gate_builtin (b := .append) (xs := #[.tmp 108, .tmp 110]) rfl ?_); at_builtin; refine Kd.R_append k107 (w0 := w) w.heap.size rfl (.tmp 108) (.tmp 110) 35 107 (.agg #[(.int .i64 0), (.string ⟨#[]⟩), (.int .i64 0)]) 32 rfl Tryz.underlying35 info107 rfl (by decide) (by omega) u4 x4_1 (⟨t352, t353, t354⟩ : S107) [.int .i64 t352, .string t353, .int .i64 t354] (fun k_ => k_ ≠ gb356) (fun _ => False) rfl (by first | (go_simp; done) | (go_simp; rfl)) ?aP (fun _ hk => hk.elim) ?aF ?aO ?aB ?aS ?aL ?_; (case aP => exact k107_mkM _ _ _ (⟨t352, t353, t354⟩ : S107)); (case aB => exact (by repeat (first | (with_reducible first | exact HB.out | apply zqb | apply zqa | apply zqc | refine zqh ?_ GE356.out) | exact HB.out))); (case aF => exact (fun k_ hk => Kd.freshB (g := gb356) (o := .cells #[.int .i64 t352, .string t353, .int .i64 t354] 107 (0, 0)) (by (with_reducible repeat (first | apply zqg | apply zqi | apply zqe)); refine zqq (cs := #[.int .i64 t352, .string t353, .int .i64 0]) ?_ 2 _ rfl; (with_reducible repeat (first | apply zqg | apply zqi | apply zqe)); refine zqq (cs := #[.int .i64 t352, .string (⟨#[]⟩ : ByteArray), .int .i64 0]) ?_ 1 _ rfl; (with_reducible repeat (first | apply zqg | apply zqi | apply zqe)); refine zqq (cs := #[.int .i64 0, .string (⟨#[]⟩ : ByteArray), .int .i64 0]) ?_ 0 _ rfl; (with_reducible repeat (first | apply zqg | apply zqi | apply zqe)); exact BK356.out) k_ hk)); (case aO => exact (by (with_reducible repeat (first | apply Kd.R_alloc | apply Kd.R_drewN | apply Kd.R_drew)); exact Kd.R_mono (Kd.R_far (p := ⟨gb356, 2, none⟩) (Kd.R_far (p := ⟨gb356, 1, none⟩) (Kd.R_far (p := ⟨gb356, 0, none⟩) (Kd.R_mono HO_4.out (fun k_ hk => (⟨hk, hk.2⟩ : _ ∧ k_ ≠ gb356))) (fun _ hk => hk.2) (.int .i64 t352)) (fun _ hk => hk.2) (.string t353)) (fun _ hk => hk.2) (.int .i64 t354)) (fun _ hk => hk.1.2))); (case aS => exact (zqj (by repeat (first | (with_reducible first | exact HB.out | apply zqb | apply zqa | apply zqc | refine zqh ?_ GE356.out) | exact HB.out)))); (case aL => have := LMc56.out; omega); intro v358 w60 ho hb hg hat; rw [← Ny357.out] at ho; have n0_ := Aside0.mk (blk_grown (g := gb356) (o := .cells #[.int .i64 t352, .string t353, .int .i64 t354] 107 (0, 0)) (by (with_reducible repeat (first | apply zqg | apply zqi | apply zqe)); refine zqq (cs := #[.int .i64 t352, .string t353, .int .i64 0]) ?_ 2 _ rfl; (with_reducible repeat (first | apply zqg | apply zqi | apply zqe)); refine zqq (cs := #[.int .i64 t352, .string (⟨#[]⟩ : ByteArray), .int .i64 0]) ?_ 1 _ rfl; (with_reducible repeat (first | apply zqg | apply zqi | apply zqe)); refine zqq (cs := #[.int .i64 0, .string (⟨#[]⟩ : ByteArray), .int .i64 0]) ?_ 0 _ rfl; (with_reducible repeat (first | apply zqg | apply zqi | apply zqe)); exact BK356.out) hg (Kd.R_away HO_4.out (fun _ hk => hk.2))); have n1_ := Aside0.mk (hb); have n2_ := Aside0.mk (ho); clear BK356; clear HB; clear HO_4; have BK356 := n0_; have HB := n1_; have HO359 := n2_; clear n0_ n1_ n2_; clear ho hb hg hat))
                         go_roundg k4
                         case measure => have := HK1.out; have := HJ3.out; have := HJ17.out; have := HK4.out; omega
                         case rel => exact ⟨(y357), (x5_4), (by first | rfl | (simp [*]; done)), H', ⟨by have := HK1.out; have := HJ3.out; have := HJ17.out; have := HK4.out; omega⟩, ⟨by (with_reducible repeat (first | apply Kd.R_alloc | apply Kd.R_drewN | apply Kd.R_drew)); exact Kd.R_mono HO359.out (fun _ hk => trivial)⟩, ⟨by repeat (first | (with_reducible first | exact HB.out | apply zqb | apply zqa | apply zqc | refine zqh ?_ GE356.out) | exact HB.out)⟩⟩
                        ·rw [if_neg c56] at H
                         exact absurd H (by simp)
                       ·replace c55 := Bool.eq_false_iff.mpr c55
                        subst c55
                        have H1 : (some (([] : List (S107)), 2)) = some (r1, r2) := by rw [if_neg (show ¬ (false = true) by decide)] at H; exact H
                        clear H
                        have H := H1
                        clear H1
                        simp only [Option.some.injEq, Prod.mk.injEq] at H
                        obtain ⟨rfl, rfl⟩ := H
                        have p27 : 0 ≤ (x5_4 : Int) := of_decide_eq_true (by assumption)
                        have q27 : x5_4 < (a0.size : Int) := of_decide_eq_true (by assumption)
                        have hx27 := zqs a0 x5_4
                        replace p27 := eq_true p27
                        replace q27 := eq_true q27
                        go_wp2_with (first | (go_at_call 95; (with_reducible refine (chancelref02_digit.calls (bt a0 x5_4) false _ A28.out).mono ?_); rintro e w' ⟨rfl, ⟨nd, rfl⟩⟩; (try (rw [drewN_self wr]; generalize hq_ : World.drewN wr _ = wr; have n0_ : Aside0 (Kd.R k107 107 wr w.heap.size (fun _ => True) u4 x4_1) := ⟨by rw [← hq_]; exact (by (with_reducible repeat (first | apply Kd.R_alloc | apply Kd.R_drewN | apply Kd.R_drew)); exact HO_4.out)⟩; have n1_ : Aside0 (Below w.heap.size w wr) := ⟨by rw [← hq_]; exact (by repeat (first | exact HB.out | apply zqb | apply zqa | apply zqc))⟩; clear HO_4 HB hq_; have HO_4 := n0_; have HB := n1_; clear n0_ n1_)); have p30 : 0 ≤ (x5_4 : Int) := of_decide_eq_true (by assumption); have q30 : x5_4 < (a0.size : Int) := of_decide_eq_true (by assumption); have hx30 := zqs a0 x5_4; replace p30 := eq_true p30; replace q30 := eq_true q30) | (go_at_call 94; (with_reducible refine (chancelref02_letter.calls (bt a0 x5_4) false _ A31.out).mono ?_); rintro e w' ⟨rfl, ⟨nd, rfl⟩⟩; (try (rw [drewN_self wr]; generalize hq_ : World.drewN wr _ = wr; have n0_ : Aside0 (Kd.R k107 107 wr w.heap.size (fun _ => True) u4 x4_1) := ⟨by rw [← hq_]; exact (by (with_reducible repeat (first | apply Kd.R_alloc | apply Kd.R_drewN | apply Kd.R_drew)); exact HO_4.out)⟩; have n1_ : Aside0 (Below w.heap.size w wr) := ⟨by rw [← hq_]; exact (by repeat (first | exact HB.out | apply zqb | apply zqa | apply zqc))⟩; clear HO_4 HB hq_; have HO_4 := n0_; have HB := n1_; clear n0_ n1_))) | ((with_reducible refine zqo (f := 96) rfl ?_); refine zqD (some 103) rfl rfl Tryz.func96 (by kernel_rfl) rfl #[.string (a0.extract (x5_1 : Int).toNat (x5_4 : Int).toNat)] rfl (by (try simp only [List.map_toArray, List.map_cons, List.map_nil]); first | done | rfl | (simp only [List.length_drop, List.length_take]; rfl)) ?_; (with_reducible refine (chancelref02_word.calls k4 (a0.extract (x5_1 : Int).toNat (x5_4 : Int).toNat) t352 t353 t354 false _ A54.out).mono ?_); rintro e w61 ⟨rfl, hb⟩; refine ⟨_, rfl, ?_⟩; have n0_ := Aside0.mk (Kd.R_below (by (with_reducible repeat (first | apply Kd.R_alloc | apply Kd.R_drewN | apply Kd.R_drew)); exact HO_4.out) hb); have n1_ := Aside0.mk (zqk (by repeat (first | exact HB.out | apply zqb | apply zqa | apply zqc)) hb); clear HO_4; clear HB; have HO_4 := n0_; have HB := n1_; clear n0_ n1_; (try clear hb); (try clear hb2); (try clear hk); (try clear hi)) | ((with_reducible refine zqr (N := 7) rfl ?_); refine zqp ?hg (N := 7) ?hd (cs := #[.int .i64 0, .string (⟨#[]⟩ : ByteArray), .int .i64 0]) (t := 107) ?hr ?_; (case hd => rfl); (case hg => rfl); (case hr => first | (go_simp; done) | (go_simp; rfl)); intro gb356 hg w62 hbox hb; have n0_ := Aside0.mk (Kd.R_below (Kd.R_elderB (by (with_reducible repeat (first | apply Kd.R_alloc | apply Kd.R_drewN | apply Kd.R_drew)); exact HO_4.out) gb356 (Nat.le_of_eq hg.symm)) hb); have n1_ := Aside0.mk (zqk (by repeat (first | exact HB.out | apply zqb | apply zqa | apply zqc)) hb); have n2_ := Aside0.mk (hbox); have n3_ := Aside0.mk ((by rw [hg]; exact (zqj (by repeat (first | exact HB.out | apply zqb | apply zqa | apply zqc))) : w.heap.size ≤ gb356)); have n4_ := Aside0.mk ((by rw [hg]; exact (zqj (by repeat (first | exact HB.out | apply zqb | apply zqa | apply zqc))) : w.heap.size ≤ gb356)); clear HO_4; clear HB; have HO_4 := n0_; have HB := n1_; have BK356 := n2_; have GW356 := n3_; have GE356 := n4_; clear n0_ n1_ n2_ n3_ n4_; clear hb hbox hg; have hcz63_0 : w62.cell? ⟨gb356, 0, none⟩ = some (.int .i64 0) := (zqf BK356.out 0).trans rfl; have hcz63_1 : w62.cell? ⟨gb356, 1, none⟩ = some (.string (⟨#[]⟩ : ByteArray)) := (zqf BK356.out 1).trans rfl; have hcz63_2 : w62.cell? ⟨gb356, 2, none⟩ = some (.int .i64 0) := (zqf BK356.out 2).trans rfl; have hfz63_0 := zqd BK356.out 0; have hfz63_1 := zqd BK356.out 1; have hfz63_2 := zqd BK356.out 2))
                        go_ret2
                        exact ⟨_, by first | rfl | (simp [zqm, zql] <;> rfl) | (simp [*, zqm, zql] <;> rfl), by first | exact Kd.R_nil _ _ _ _ _ | exact Kd.N_nil _ _ _ _ _ | exact Kd.V_nil _ _ _ _ _ | exact Kd.Q_nil _ _ _ _ _ | exact Kd.S_nil _ _ _ _ _, by repeat (first | (with_reducible first | exact HB.out | apply zqb | apply zqa | apply zqc | refine zqh ?_ GE356.out) | exact HB.out)⟩
                      ·rw [if_neg c53] at H
                       exact absurd H (by simp)
                     ·rw [if_neg c52] at H
                      exact absurd H (by simp)
                    ·rw [if_neg c51] at H
                     exact absurd H (by simp)
                 ·rw [if_neg c26] at H
                  exact absurd H (by simp)
                ·rw [if_neg c25] at H
                 have c25b0 : decide (x5_4 < (a0.size : Int)) = false := decide_eq_false c25
                 clear c25
                 by_cases c64 : 0 ≤ x5_1
                 ·rw [if_pos c64] at H
                  have c64b0 := eq_true c64
                  have c64b1 : decide (0 ≤ x5_1) = true := decide_eq_true c64
                  clear c64
                  by_cases c65 : x5_1 ≤ x5_4
                  ·rw [if_pos c65] at H
                   have c65b0 := eq_true c65
                   have c65b1 : decide (x5_1 ≤ x5_4) = true := decide_eq_true c65
                   clear c65
                   by_cases c66 : x5_4 ≤ (a0.size : Int)
                   ·rw [if_pos c66] at H
                    have c66b0 := eq_true c66
                    have c66b1 : decide (x5_4 ≤ (a0.size : Int)) = true := decide_eq_true c66
                    clear c66
                    replace H := Option.bind_eq_some_iff.mp H
                    obtain ⟨⟨t360, t361, t362, t363⟩, A670, H⟩ := H
                    replace H : (if t363 = true then (if x4_1.length < 4398046511104 then (chancelref02_Lex.l0 k4 a0 (x4_1 ++ [(⟨t360, t361, t362⟩ : S107)]) x5_4) else (none)) else (some (([] : List (S107)), 2))) = some (r1, r2) := H
                    have A67 := Aside0.mk A670
                    clear A670
                    by_cases c68 : t363 = true
                    ·subst c68
                     have H1 : (if x4_1.length < 4398046511104 then (chancelref02_Lex.l0 k4 a0 (x4_1 ++ [(⟨t360, t361, t362⟩ : S107)]) x5_4) else (none)) = some (r1, r2) := by rw [if_pos rfl] at H; exact H
                     clear H
                     have H := H1
                     clear H1
                     by_cases c69 : x4_1.length < 4398046511104
                     ·rw [if_pos c69] at H
                      have LMc69 := Aside0.mk c69
                      clear c69
                      obtain ⟨y365, hy365⟩ : ∃ y_ : List (S107), y_ = (x4_1 ++ [(⟨t360, t361, t362⟩ : S107)]) := ⟨_, rfl⟩
                      replace H : (chancelref02_Lex.l0 k4 a0 y365 x5_4) = some (r1, r2) := by first | (rw [hy365]; with_reducible exact H) | (have H2_ := (Option.bind_some _ _).symm.trans H; rw [hy365]; with_reducible exact H2_) | (have H2_ := (Option.bind_some _ _).symm.trans H; with_reducible exact H2_) | with_reducible exact H | (rw [hy365]; exact H) | exact H
                      have Ny365 := Aside0.mk hy365
                      clear hy365
                      have H' := Aside0.mk H
                      clear H
                      go_wp2_with (first | ((with_reducible refine zqo (f := 96) rfl ?_); refine zqD (some 103) rfl rfl Tryz.func96 (by kernel_rfl) rfl #[.string (a0.extract (x5_1 : Int).toNat (x5_4 : Int).toNat)] rfl (by (try simp only [List.map_toArray, List.map_cons, List.map_nil]); first | done | rfl | (simp only [List.length_drop, List.length_take]; rfl)) ?_; (with_reducible refine (chancelref02_word.calls k4 (a0.extract (x5_1 : Int).toNat (x5_4 : Int).toNat) t360 t361 t362 true _ A67.out).mono ?_); rintro e w70 ⟨rfl, hb⟩; refine ⟨_, rfl, ?_⟩; have n0_ := Aside0.mk (Kd.R_below (by (with_reducible repeat (first | apply Kd.R_alloc | apply Kd.R_drewN | apply Kd.R_drew)); exact HO_4.out) hb); have n1_ := Aside0.mk (zqk (by repeat (first | exact HB.out | apply zqb | apply zqa | apply zqc)) hb); clear HO_4; clear HB; have HO_4 := n0_; have HB := n1_; clear n0_ n1_; (try clear hb); (try clear hb2); (try clear hk); (try clear hi)) | ((with_reducible refine zqr (N := 7) rfl ?_); refine zqp ?hg (N := 7) ?hd (cs := #[.int .i64 0, .string (⟨#[]⟩ : ByteArray), .int .i64 0]) (t := 107) ?hr ?_; (case hd => rfl); (case hg => rfl); (case hr => first | (go_simp; done) | (go_simp; rfl)); intro gb364 hg w71 hbox hb; have n0_ := Aside0.mk (Kd.R_below (Kd.R_elderB (by (with_reducible repeat (first | apply Kd.R_alloc | apply Kd.R_drewN | apply Kd.R_drew)); exact HO_4.out) gb364 (Nat.le_of_eq hg.symm)) hb); have n1_ := Aside0.mk (zqk (by repeat (first | exact HB.out | apply zqb | apply zqa | apply zqc)) hb); have n2_ := Aside0.mk (hbox); have n3_ := Aside0.mk ((by rw [hg]; exact (zqj (by repeat (first | exact HB.out | apply zqb | apply zqa | apply zqc))) : w.heap.size ≤ gb364)); have n4_ := Aside0.mk ((by rw [hg]; exact (zqj (by repeat (first | exact HB.out | apply zqb | apply zqa | apply zqc))) : w.heap.size ≤ gb364)); clear HO_4; clear HB; have HO_4 := n0_; have HB := n1_; have BK364 := n2_; have GW364 := n3_; have GE364 := n4_; clear n0_ n1_ n2_ n3_ n4_; clear hb hbox hg; have hcz72_0 : w71.cell? ⟨gb364, 0, none⟩ = some (.int .i64 0) := (zqf BK364.out 0).trans rfl; have hcz72_1 : w71.cell? ⟨gb364, 1, none⟩ = some (.string (⟨#[]⟩ : ByteArray)) := (zqf BK364.out 1).trans rfl; have hcz72_2 : w71.cell? ⟨gb364, 2, none⟩ = some (.int .i64 0) := (zqf BK364.out 2).trans rfl; have hfz72_0 := zqd BK364.out 0; have hfz72_1 := zqd BK364.out 1; have hfz72_2 := zqd BK364.out 2) | ((with_reducible refine gate_builtin (b := .append) (xs := #[.tmp 108, .tmp 110]) rfl ?_); at_builtin; refine Kd.R_append k107 (w0 := w) w.heap.size rfl (.tmp 108) (.tmp 110) 35 107 (.agg #[(.int .i64 0), (.string ⟨#[]⟩), (.int .i64 0)]) 32 rfl Tryz.underlying35 info107 rfl (by decide) (by omega) u4 x4_1 (⟨t360, t361, t362⟩ : S107) [.int .i64 t360, .string t361, .int .i64 t362] (fun k_ => k_ ≠ gb364) (fun _ => False) rfl (by first | (go_simp; done) | (go_simp; rfl)) ?aP (fun _ hk => hk.elim) ?aF ?aO ?aB ?aS ?aL ?_; (case aP => exact k107_mkM _ _ _ (⟨t360, t361, t362⟩ : S107)); (case aB => exact (by repeat (first | (with_reducible first | exact HB.out | apply zqb | apply zqa | apply zqc | refine zqh ?_ GE364.out) | exact HB.out))); (case aF => exact (fun k_ hk => Kd.freshB (g := gb364) (o := .cells #[.int .i64 t360, .string t361, .int .i64 t362] 107 (0, 0)) (by (with_reducible repeat (first | apply zqg | apply zqi | apply zqe)); refine zqq (cs := #[.int .i64 t360, .string t361, .int .i64 0]) ?_ 2 _ rfl; (with_reducible repeat (first | apply zqg | apply zqi | apply zqe)); refine zqq (cs := #[.int .i64 t360, .string (⟨#[]⟩ : ByteArray), .int .i64 0]) ?_ 1 _ rfl; (with_reducible repeat (first | apply zqg | apply zqi | apply zqe)); refine zqq (cs := #[.int .i64 0, .string (⟨#[]⟩ : ByteArray), .int .i64 0]) ?_ 0 _ rfl; (with_reducible repeat (first | apply zqg | apply zqi | apply zqe)); exact BK364.out) k_ hk)); (case aO => exact (by (with_reducible repeat (first | apply Kd.R_alloc | apply Kd.R_drewN | apply Kd.R_drew)); exact Kd.R_mono (Kd.R_far (p := ⟨gb364, 2, none⟩) (Kd.R_far (p := ⟨gb364, 1, none⟩) (Kd.R_far (p := ⟨gb364, 0, none⟩) (Kd.R_mono HO_4.out (fun k_ hk => (⟨hk, hk.2⟩ : _ ∧ k_ ≠ gb364))) (fun _ hk => hk.2) (.int .i64 t360)) (fun _ hk => hk.2) (.string t361)) (fun _ hk => hk.2) (.int .i64 t362)) (fun _ hk => hk.1.2))); (case aS => exact (zqj (by repeat (first | (with_reducible first | exact HB.out | apply zqb | apply zqa | apply zqc | refine zqh ?_ GE364.out) | exact HB.out)))); (case aL => have := LMc69.out; omega); intro v366 w73 ho hb hg hat; rw [← Ny365.out] at ho; have n0_ := Aside0.mk (blk_grown (g := gb364) (o := .cells #[.int .i64 t360, .string t361, .int .i64 t362] 107 (0, 0)) (by (with_reducible repeat (first | apply zqg | apply zqi | apply zqe)); refine zqq (cs := #[.int .i64 t360, .string t361, .int .i64 0]) ?_ 2 _ rfl; (with_reducible repeat (first | apply zqg | apply zqi | apply zqe)); refine zqq (cs := #[.int .i64 t360, .string (⟨#[]⟩ : ByteArray), .int .i64 0]) ?_ 1 _ rfl; (with_reducible repeat (first | apply zqg | apply zqi | apply zqe)); refine zqq (cs := #[.int .i64 0, .string (⟨#[]⟩ : ByteArray), .int .i64 0]) ?_ 0 _ rfl; (with_reducible repeat (first | apply zqg | apply zqi | apply zqe)); exact BK364.out) hg (Kd.R_away HO_4.out (fun _ hk => hk.2))); have n1_ := Aside0.mk (hb); have n2_ := Aside0.mk (ho); clear BK364; clear HB; clear HO_4; have BK364 := n0_; have HB := n1_; have HO367 := n2_; clear n0_ n1_ n2_; clear ho hb hg hat))
                      go_roundg k4
                      case measure => have := HK1.out; have := HJ3.out; have := HJ17.out; have := HK4.out; omega
                      case rel => exact ⟨(y365), (x5_4), (by first | rfl | (simp [*]; done)), H', ⟨by have := HK1.out; have := HJ3.out; have := HJ17.out; have := HK4.out; omega⟩, ⟨by (with_reducible repeat (first | apply Kd.R_alloc | apply Kd.R_drewN | apply Kd.R_drew)); exact Kd.R_mono HO367.out (fun _ hk => trivial)⟩, ⟨by repeat (first | (with_reducible first | exact HB.out | apply zqb | apply zqa | apply zqc | refine zqh ?_ GE364.out) | exact HB.out)⟩⟩
                     ·rw [if_neg c69] at H
                      exact absurd H (by simp)
                    ·replace c68 := Bool.eq_false_iff.mpr c68
                     subst c68
                     have H1 : (some (([] : List (S107)), 2)) = some (r1, r2) := by rw [if_neg (show ¬ (false = true) by decide)] at H; exact H
                     clear H
                     have H := H1
                     clear H1
                     simp only [Option.some.injEq, Prod.mk.injEq] at H
                     obtain ⟨rfl, rfl⟩ := H
                     go_wp2_with (first | ((with_reducible refine zqo (f := 96) rfl ?_); refine zqD (some 103) rfl rfl Tryz.func96 (by kernel_rfl) rfl #[.string (a0.extract (x5_1 : Int).toNat (x5_4 : Int).toNat)] rfl (by (try simp only [List.map_toArray, List.map_cons, List.map_nil]); first | done | rfl | (simp only [List.length_drop, List.length_take]; rfl)) ?_; (with_reducible refine (chancelref02_word.calls k4 (a0.extract (x5_1 : Int).toNat (x5_4 : Int).toNat) t360 t361 t362 false _ A67.out).mono ?_); rintro e w74 ⟨rfl, hb⟩; refine ⟨_, rfl, ?_⟩; have n0_ := Aside0.mk (Kd.R_below (by (with_reducible repeat (first | apply Kd.R_alloc | apply Kd.R_drewN | apply Kd.R_drew)); exact HO_4.out) hb); have n1_ := Aside0.mk (zqk (by repeat (first | exact HB.out | apply zqb | apply zqa | apply zqc)) hb); clear HO_4; clear HB; have HO_4 := n0_; have HB := n1_; clear n0_ n1_; (try clear hb); (try clear hb2); (try clear hk); (try clear hi)) | ((with_reducible refine zqr (N := 7) rfl ?_); refine zqp ?hg (N := 7) ?hd (cs := #[.int .i64 0, .string (⟨#[]⟩ : ByteArray), .int .i64 0]) (t := 107) ?hr ?_; (case hd => rfl); (case hg => rfl); (case hr => first | (go_simp; done) | (go_simp; rfl)); intro gb364 hg w75 hbox hb; have n0_ := Aside0.mk (Kd.R_below (Kd.R_elderB (by (with_reducible repeat (first | apply Kd.R_alloc | apply Kd.R_drewN | apply Kd.R_drew)); exact HO_4.out) gb364 (Nat.le_of_eq hg.symm)) hb); have n1_ := Aside0.mk (zqk (by repeat (first | exact HB.out | apply zqb | apply zqa | apply zqc)) hb); have n2_ := Aside0.mk (hbox); have n3_ := Aside0.mk ((by rw [hg]; exact (zqj (by repeat (first | exact HB.out | apply zqb | apply zqa | apply zqc))) : w.heap.size ≤ gb364)); have n4_ := Aside0.mk ((by rw [hg]; exact (zqj (by repeat (first | exact HB.out | apply zqb | apply zqa | apply zqc))) : w.heap.size ≤ gb364)); clear HO_4; clear HB; have HO_4 := n0_; have HB := n1_; have BK364 := n2_; have GW364 := n3_; have GE364 := n4_; clear n0_ n1_ n2_ n3_ n4_; clear hb hbox hg; have hcz76_0 : w75.cell? ⟨gb364, 0, none⟩ = some (.int .i64 0) := (zqf BK364.out 0).trans rfl; have hcz76_1 : w75.cell? ⟨gb364, 1, none⟩ = some (.string (⟨#[]⟩ : ByteArray)) := (zqf BK364.out 1).trans rfl; have hcz76_2 : w75.cell? ⟨gb364, 2, none⟩ = some (.int .i64 0) := (zqf BK364.out 2).trans rfl; have hfz76_0 := zqd BK364.out 0; have hfz76_1 := zqd BK364.out 1; have hfz76_2 := zqd BK364.out 2))
                     go_ret2
                     exact ⟨_, by first | rfl | (simp [zqm, zql] <;> rfl) | (simp [*, zqm, zql] <;> rfl), by first | exact Kd.R_nil _ _ _ _ _ | exact Kd.N_nil _ _ _ _ _ | exact Kd.V_nil _ _ _ _ _ | exact Kd.Q_nil _ _ _ _ _ | exact Kd.S_nil _ _ _ _ _, by repeat (first | (with_reducible first | exact HB.out | apply zqb | apply zqa | apply zqc | refine zqh ?_ GE364.out) | exact HB.out)⟩
                   ·rw [if_neg c66] at H
                    exact absurd H (by simp)
                  ·rw [if_neg c65] at H
                   exact absurd H (by simp)
                 ·rw [if_neg c64] at H
                  exact absurd H (by simp)
             ·replace c24 := Bool.eq_false_iff.mpr c24
              subst c24
              have H1 : (if 0 ≤ x5_1 then (if x5_1 ≤ (a0.size : Int) then ((chancelref02_mark.f kj17 (a0.extract (x5_1 : Int).toNat a0.size)).bind fun t368 => (if t368.toList = ([] : List UInt8) then (some (([] : List (S107)), 2)) else (if x4_1.length < 4398046511104 then (chancelref02_Lex.l0 kj17 a0 (x4_1 ++ [(⟨4, t368, 0⟩ : S107)]) (wrap64 (x5_1 + (t368.size : Int)))) else (none)))) else (none)) else (none)) = some (r1, r2) := by rw [if_neg (show ¬ (false = true) by decide)] at H; exact H
              clear H
              have H := H1
              clear H1
              by_cases c77 : 0 ≤ x5_1
              ·rw [if_pos c77] at H
               have c77b0 := eq_true c77
               have c77b1 : decide (0 ≤ x5_1) = true := decide_eq_true c77
               clear c77
               by_cases c78 : x5_1 ≤ (a0.size : Int)
               ·rw [if_pos c78] at H
                have c78b0 := eq_true c78
                have c78b1 : decide (x5_1 ≤ (a0.size : Int)) = true := decide_eq_true c78
                clear c78
                replace H := Option.bind_eq_some_iff.mp H
                obtain ⟨t368, A790, H⟩ := H
                replace H : (if t368.toList = ([] : List UInt8) then (some (([] : List (S107)), 2)) else (if x4_1.length < 4398046511104 then (chancelref02_Lex.l0 kj17 a0 (x4_1 ++ [(⟨4, t368, 0⟩ : S107)]) (wrap64 (x5_1 + (t368.size : Int)))) else (none))) = some (r1, r2) := H
                have A79 := Aside0.mk A790
                clear A790
                by_cases c80 : t368.toList = ([] : List UInt8)
                ·rw [if_pos c80] at H
                 have c80b0 : (t368.toList == ([] : List UInt8)) = true := beq_iff_eq.mpr c80
                 have c80b1 : (t368.toList != ([] : List UInt8)) = false := bne_eq_false_iff_eq.mpr c80
                 clear c80
                 simp only [Option.some.injEq, Prod.mk.injEq] at H
                 obtain ⟨rfl, rfl⟩ := H
                 go_wp2_with (first | ((with_reducible refine zqo (f := 97) rfl ?_); refine zqD (some 21) rfl rfl Tryz.func97 (by kernel_rfl) rfl #[.string (a0.extract (x5_1 : Int).toNat a0.size)] rfl (by (try simp only [List.map_toArray, List.map_cons, List.map_nil]); first | done | rfl | (simp only [List.length_drop, List.length_take]; rfl)) ?_; (with_reducible refine (chancelref02_mark.calls kj17 (a0.extract (x5_1 : Int).toNat a0.size) t368 _ A79.out).mono ?_); rintro e w81 ⟨rfl, hb⟩; refine ⟨_, rfl, ?_⟩; have n0_ := Aside0.mk (Kd.R_below (by (with_reducible repeat (first | apply Kd.R_alloc | apply Kd.R_drewN | apply Kd.R_drew)); exact HO_4.out) hb); have n1_ := Aside0.mk (zqk (by repeat (first | exact HB.out | apply zqb | apply zqa | apply zqc)) hb); clear HO_4; clear HB; have HO_4 := n0_; have HB := n1_; clear n0_ n1_; (try clear hb); (try clear hb2); (try clear hk); (try clear hi)))
                 go_ret2
                 exact ⟨_, by first | rfl | (simp [zqm, zql] <;> rfl) | (simp [*, zqm, zql] <;> rfl), by first | exact Kd.R_nil _ _ _ _ _ | exact Kd.N_nil _ _ _ _ _ | exact Kd.V_nil _ _ _ _ _ | exact Kd.Q_nil _ _ _ _ _ | exact Kd.S_nil _ _ _ _ _, by repeat (first | exact HB.out | apply zqb | apply zqa | apply zqc)⟩
                ·rw [if_neg c80] at H
                 have c80b0 : (t368.toList == ([] : List UInt8)) = false := beq_eq_false_iff_ne.mpr c80
                 have c80b1 : (t368.toList != ([] : List UInt8)) = true := bne_iff_ne.mpr c80
                 by_cases c82 : x4_1.length < 4398046511104
                 ·rw [if_pos c82] at H
                  have LMc82 := Aside0.mk c82
                  clear c82
                  obtain ⟨y369, hy369⟩ : ∃ y_ : List (S107), y_ = (x4_1 ++ [(⟨4, t368, 0⟩ : S107)]) := ⟨_, rfl⟩
                  replace H : (chancelref02_Lex.l0 kj17 a0 y369 (wrap64 (x5_1 + (t368.size : Int)))) = some (r1, r2) := by first | (rw [hy369]; with_reducible exact H) | (have H2_ := (Option.bind_some _ _).symm.trans H; rw [hy369]; with_reducible exact H2_) | (have H2_ := (Option.bind_some _ _).symm.trans H; with_reducible exact H2_) | with_reducible exact H | (rw [hy369]; exact H) | exact H
                  have Ny369 := Aside0.mk hy369
                  clear hy369
                  have H' := Aside0.mk H
                  clear H
                  go_wp2_with (first | ((with_reducible refine zqo (f := 97) rfl ?_); refine zqD (some 21) rfl rfl Tryz.func97 (by kernel_rfl) rfl #[.string (a0.extract (x5_1 : Int).toNat a0.size)] rfl (by (try simp only [List.map_toArray, List.map_cons, List.map_nil]); first | done | rfl | (simp only [List.length_drop, List.length_take]; rfl)) ?_; (with_reducible refine (chancelref02_mark.calls kj17 (a0.extract (x5_1 : Int).toNat a0.size) t368 _ A79.out).mono ?_); rintro e w83 ⟨rfl, hb⟩; refine ⟨_, rfl, ?_⟩; have n0_ := Aside0.mk (Kd.R_below (by (with_reducible repeat (first | apply Kd.R_alloc | apply Kd.R_drewN | apply Kd.R_drew)); exact HO_4.out) hb); have n1_ := Aside0.mk (zqk (by repeat (first | exact HB.out | apply zqb | apply zqa | apply zqc)) hb); clear HO_4; clear HB; have HO_4 := n0_; have HB := n1_; clear n0_ n1_; (try clear hb); (try clear hb2); (try clear hk); (try clear hi)) | ((with_reducible refine gate_builtin (b := .append) (xs := #[.tmp 24, .tmp 27]) rfl ?_); at_builtin; refine Kd.R_append k107 (w0 := w) w.heap.size rfl (.tmp 24) (.tmp 27) 35 107 (.agg #[(.int .i64 0), (.string ⟨#[]⟩), (.int .i64 0)]) 32 rfl Tryz.underlying35 info107 rfl (by decide) (by omega) u4 x4_1 (⟨4, t368, 0⟩ : S107) [.int .i64 4, .string t368, .int .i64 0] (fun _ => True) (fun _ => False) rfl rfl ?aP (fun _ hk => hk.elim) ?aF ?aO ?aB ?aS ?aL ?_; (case aP => exact k107_mkM _ _ _ (⟨4, t368, 0⟩ : S107)); (case aB => exact (by repeat (first | exact HB.out | apply zqb | apply zqa | apply zqc))); (case aF => exact (fun _ _ => trivial)); (case aO => exact (by (with_reducible repeat (first | apply Kd.R_alloc | apply Kd.R_drewN | apply Kd.R_drew)); exact HO_4.out)); (case aS => exact (zqj (by repeat (first | exact HB.out | apply zqb | apply zqa | apply zqc)))); (case aL => have := LMc82.out; omega); intro v370 w84 ho hb hg hat; rw [← Ny369.out] at ho; have n0_ := Aside0.mk (hb); have n1_ := Aside0.mk (ho); clear HB; clear HO_4; have HB := n0_; have HO371 := n1_; clear n0_ n1_; clear ho hb hg hat))
                  go_roundg kj17
                  case measure => have := HK1.out; have := HJ3.out; have := HJ17.out; omega
                  case rel => exact ⟨(y369), (wrap64 (x5_1 + (t368.size : Int))), (by first | rfl | (simp [*]; done)), H', ⟨by have := HK1.out; have := HJ3.out; have := HJ17.out; omega⟩, ⟨by (with_reducible repeat (first | apply Kd.R_alloc | apply Kd.R_drewN | apply Kd.R_drew)); exact HO371.out⟩, ⟨by repeat (first | exact HB.out | apply zqb | apply zqa | apply zqc)⟩⟩
                 ·rw [if_neg c82] at H
                  exact absurd H (by simp)
               ·rw [if_neg c78] at H
                exact absurd H (by simp)
              ·rw [if_neg c77] at H
               exact absurd H (by simp)
         ·rw [if_neg c11] at H
          exact absurd H (by simp)
        ·rw [if_neg c10] at H
         exact absurd H (by simp)
    ·rw [if_neg c3] at H
     have c3b0 : decide (x5_1 < (a0.size : Int)) = false := decide_eq_false c3
     clear c3
     simp only [Option.some.injEq, Prod.mk.injEq] at H
     obtain ⟨rfl, rfl⟩ := H
     go_wp2
     go_ret2
     exact ⟨_, by first | rfl | (simp [zqm, zql] <;> rfl) | (simp [*, zqm, zql] <;> rfl), by (with_reducible repeat (first | apply Kd.R_alloc | apply Kd.R_drewN | apply Kd.R_drew)); exact HO_4.out, by repeat (first | exact HB.out | apply zqb | apply zqa | apply zqc)⟩
end Go.Proofs.YtchekgnacodolaaGreatDoor.X
end

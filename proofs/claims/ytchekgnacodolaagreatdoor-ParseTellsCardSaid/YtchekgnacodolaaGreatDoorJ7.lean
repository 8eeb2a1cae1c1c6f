-- Joined by our own program (wip/tools/prune.py) out of the seat's texts, less what this claim doesn't name.
import Derived.Test.YtchekgnacodolaaGreatDoorJ6
set_option maxHeartbeats 8000000
set_option maxRecDepth 100000
section
namespace Go.Proofs.YtchekgnacodolaaGreatDoor.X
open Go.RowKit Go.Proofs.YtchekgnacodolaaGreatDoorW.PrintWords Go.Proofs.YtchekgnacodolaaGreatDoorW.PrintLast Go.Proofs.YtchekgnacodolaaGreatDoorW.PrintMore
attribute [local go_sem] zqK zqL max_two min_two zqB zqC zqI zqJ
set_option linter.unusedVariables false
set_option linter.unusedSimpArgs false
mutual
def chancelref01_Name.j0 : Nat → ByteArray → Bool → Option (Bool)
 | 0, _, _ => none
 | k + 1, x0, x13 => if x13 = true then (some false) else (chancelref01_Name.l0 k x0 0)
def chancelref01_Name.l0 : Nat → ByteArray → Int → Option (Bool)
 | 0, _, _ => none
 | k + 1, x0, x3 => if x3 < (x0.size : Int) then (if 0 ≤ x3 then (if (bt x0 x3) ≥ 97 then (if (bt x0 x3) ≤ 122 then (if (bt x0 x3) ≥ 48 then (chancelref01_Name.l0 k x0 (wrap64 (x3 + 1))) else (chancelref01_Name.l0 k x0 (wrap64 (x3 + 1)))) else (if (bt x0 x3) ≥ 65 then (if (bt x0 x3) ≥ 48 then (if ((bt x0 x3) ≤ 90) then (chancelref01_Name.l0 k x0 (wrap64 (x3 + 1))) else (if x3 = 0 then (some false) else (if ((bt x0 x3) ≤ 57) then (chancelref01_Name.l0 k x0 (wrap64 (x3 + 1))) else (some false)))) else (if ((bt x0 x3) ≤ 90) then (chancelref01_Name.l0 k x0 (wrap64 (x3 + 1))) else (if x3 = 0 then (some false) else (some false)))) else (if (bt x0 x3) ≥ 48 then (if x3 = 0 then (some false) else (if ((bt x0 x3) ≤ 57) then (chancelref01_Name.l0 k x0 (wrap64 (x3 + 1))) else (some false))) else (if x3 = 0 then (some false) else (some false))))) else (if (bt x0 x3) ≥ 65 then (if (bt x0 x3) ≥ 48 then (if ((bt x0 x3) ≤ 90) then (chancelref01_Name.l0 k x0 (wrap64 (x3 + 1))) else (if x3 = 0 then (some false) else (if ((bt x0 x3) ≤ 57) then (chancelref01_Name.l0 k x0 (wrap64 (x3 + 1))) else (some false)))) else (if ((bt x0 x3) ≤ 90) then (chancelref01_Name.l0 k x0 (wrap64 (x3 + 1))) else (if x3 = 0 then (some false) else (some false)))) else (if (bt x0 x3) ≥ 48 then (if x3 = 0 then (some false) else (if ((bt x0 x3) ≤ 57) then (chancelref01_Name.l0 k x0 (wrap64 (x3 + 1))) else (some false))) else (if x3 = 0 then (some false) else (some false))))) else (none)) else (some true)
end
def chancelref01_Name.f (k : Nat) (a0 : ByteArray) : Option (Bool) := if (a0.size : Int) < 1 then (chancelref01_Name.j0 k a0 true) else (chancelref01_Name.j0 k a0 (decide ((a0.size : Int) > 16)))
theorem chancelref01_Name.mono_l : ∀ k, (∀ y0 y1, LeO (chancelref01_Name.j0 k y0 y1) (chancelref01_Name.j0 (k + 1) y0 y1)) ∧ (∀ y0 y1, LeO (chancelref01_Name.l0 k y0 y1) (chancelref01_Name.l0 (k + 1) y0 y1))
 | 0 => ⟨fun _ _ r h => by simp [chancelref01_Name.j0] at h, fun _ _ r h => by simp [chancelref01_Name.l0] at h⟩
 | k + 1 => by
  obtain ⟨ih0, ih1⟩ := chancelref01_Name.mono_l k
  refine ⟨?_, ?_⟩
  ·intro y0 y1
   unfold chancelref01_Name.j0
   repeat' first
   | (with_reducible exact ih0 _ _)
   | (with_reducible exact ih1 _ _)
   | (with_reducible exact LeO.refl _)
   | (with_reducible exact LeO.none _)
   | (with_reducible refine LeO.ite ?_ ?_)
   | (with_reducible refine LeO.bind ?_ (fun _ => ?_))
   | exact ih0 _ _
   | exact ih1 _ _
   | exact LeO.none _
   | refine LeO.ite ?_ ?_
   | refine LeO.bind ?_ (fun _ => ?_)
  ·intro y0 y1
   unfold chancelref01_Name.l0
   repeat' first
   | (with_reducible exact ih0 _ _)
   | (with_reducible exact ih1 _ _)
   | (with_reducible exact LeO.refl _)
   | (with_reducible exact LeO.none _)
   | (with_reducible refine LeO.ite ?_ ?_)
   | (with_reducible refine LeO.bind ?_ (fun _ => ?_))
   | exact ih0 _ _
   | exact ih1 _ _
   | exact LeO.none _
   | refine LeO.ite ?_ ?_
   | refine LeO.bind ?_ (fun _ => ?_)
theorem chancelref01_Name.mono : ∀ a0 k, LeO (chancelref01_Name.f k a0) (chancelref01_Name.f (k + 1) a0) := by
 intro a0 k
 obtain ⟨ih0, ih1⟩ := chancelref01_Name.mono_l k
 unfold chancelref01_Name.f
 repeat' first
   | (with_reducible exact ih0 _ _)
   | (with_reducible exact ih1 _ _)
   | (with_reducible exact LeO.refl _)
   | (with_reducible exact LeO.none _)
   | (with_reducible refine LeO.ite ?_ ?_)
   | (with_reducible refine LeO.bind ?_ (fun _ => ?_))
   | exact ih0 _ _
   | exact ih1 _ _
   | exact LeO.none _
   | refine LeO.ite ?_ ?_
   | refine LeO.bind ?_ (fun _ => ?_)
theorem chancelref01_Name.calls (k : Nat) (a0 : ByteArray) (r : Bool) (w : World) (h : chancelref01_Name.f k a0 = some r) :
  Calls Tryz.prog 139 #[.string a0] w fun e w' => e = .returned (.bool r) ∧ Drawn0 w w' := by
 have H : (if (a0.size : Int) < 1 then (chancelref01_Name.j0 k a0 true) else (chancelref01_Name.j0 k a0 (decide ((a0.size : Int) > 16)))) = some r := h
 clear h
 have HC2 := Aside0.mk H
 clear H
 go_enter Tryz.func139, Tryz.ntmps139
 go_upto_region 1 with (fail)
 go_cut [13] (fun v13 wc => ∃ (kq : Nat) (x13_1 : Bool), v13 = .bool x13_1 ∧ Aside0 (chancelref01_Name.j0 kq a0 x13_1 = some r) ∧ Aside0 (kq ≤ k) ∧ Drawn0 w wc)
 case first =>
  have H := HC2.out
  clear HC2
  by_cases c3 : (a0.size : Int) < 1
  ·rw [if_pos c3] at H
   have c3b0 : decide ((a0.size : Int) < 1) = true := decide_eq_true c3
   have c3b1 : decide (a0.size < 1) = true := decide_eq_true (by omega)
   clear c3
   (first | rw [c3b0] | (simp only [i64_w, i32_w]; rw [c3b0]) | skip)
   have H' := Aside0.mk H
   clear H
   go_wp2
   go_meet
   case rel => exact ⟨_, (true), (by first | rfl | (simp [*]; done)), H', ⟨by first | omega | exact Nat.le_refl _⟩, by repeat (first | exact Drawn0.refl _ | apply Drawn0.step)⟩
  ·rw [if_neg c3] at H
   have c3b0 : decide ((a0.size : Int) < 1) = false := decide_eq_false c3
   have c3b1 : decide (a0.size < 1) = false := decide_eq_false (by omega)
   clear c3
   (first | rw [c3b0] | (simp only [i64_w, i32_w]; rw [c3b0]) | skip)
   have H' := Aside0.mk H
   clear H
   go_wp2
   go_meet
   case rel => exact ⟨_, (decide ((a0.size : Int) > 16)), (by first | rfl | (simp [*]; done)), H', ⟨by first | omega | exact Nat.le_refl _⟩, by repeat (first | exact Drawn0.refl _ | apply Drawn0.step)⟩
 case rest =>
  clear HC2
  try clear c1
  try clear p2
  try clear c3
  try clear c3b0
  try clear c3b1
  obtain ⟨kq, x13_1, rfl, HA, HJ1, ⟨mc1, rfl⟩⟩ := hcut
  cases kq with
  | zero => exact absurd HA.out (by simp [chancelref01_Name.j0])
  | succ kj1 =>
   have H := HA.out
   clear HA
   simp only [chancelref01_Name.j0] at H
   by_cases c4 : x13_1 = true
   ·subst c4
    have H1 : (some false) = some r := by rw [if_pos rfl] at H; exact H
    clear H
    have H := H1
    clear H1
    obtain rfl := Option.some.inj H
    go_wp2
    go_ret
    exact ⟨by first | rfl | (simp [*]; done), by repeat (first | exact Drawn0.refl _ | apply Drawn0.step)⟩
   ·replace c4 := Bool.eq_false_iff.mpr c4
    subst c4
    have H1 : (chancelref01_Name.l0 kj1 a0 0) = some r := by rw [if_neg (show ¬ (false = true) by decide)] at H; exact H
    clear H
    have H := H1
    clear H1
    have H' := Aside0.mk H
    clear H
    go_wp2
    go_loopg [3] kj1 (fun kq v3 w' => ∃ (x3_2 : Int), v3 = .int .i64 x3_2 ∧ Aside0 (chancelref01_Name.l0 kq a0 x3_2 = some r) ∧ Aside0 (kq ≤ kj1) ∧ Drawn0 w w')
    case atStart => exact ⟨(0), (by first | rfl | (simp [*]; done)), H', ⟨Nat.le_refl _⟩, by repeat (first | exact Drawn0.refl _ | apply Drawn0.step)⟩
    case round =>
     clear H'
     try clear c1
     try clear p2
     try clear c3
     try clear c3b0
     try clear c3b1
     try clear c4
     try clear p2
     obtain ⟨x3_2, rfl, HA, HK2, ⟨m2, rfl⟩⟩ := hrel
     cases gk with
     | zero => exact absurd HA.out (by simp [chancelref01_Name.l0])
     | succ k2 =>
      have H := HA.out
      clear HA
      simp only [chancelref01_Name.l0] at H
      by_cases c5 : x3_2 < (a0.size : Int)
      ·rw [if_pos c5] at H
       have c5b0 : decide (x3_2 < (a0.size : Int)) = true := decide_eq_true c5
       clear c5
       by_cases c6 : 0 ≤ x3_2
       ·rw [if_pos c6] at H
        have c6b0 : decide (0 ≤ x3_2) = true := decide_eq_true c6
        clear c6
        by_cases c8 : (bt a0 x3_2) ≥ 97
        ·rw [if_pos c8] at H
         have c8b0 : decide (97 ≤ (bt a0 x3_2)) = true := decide_eq_true c8
         clear c8
         by_cases c10 : (bt a0 x3_2) ≤ 122
         ·rw [if_pos c10] at H
          have c10b0 : decide ((bt a0 x3_2) ≤ 122) = true := decide_eq_true c10
          clear c10
          by_cases c12 : (bt a0 x3_2) ≥ 48
          ·rw [if_pos c12] at H
           have c12b0 : decide (48 ≤ (bt a0 x3_2)) = true := decide_eq_true c12
           clear c12
           have H' := Aside0.mk H
           clear H
           have p7 : 0 ≤ (x3_2 : Int) := of_decide_eq_true (by assumption)
           have q7 : x3_2 < (a0.size : Int) := of_decide_eq_true (by assumption)
           have hx7 := zqs a0 x3_2
           replace p7 := eq_true p7
           replace q7 := eq_true q7
           have p9 : 0 ≤ (x3_2 : Int) := of_decide_eq_true (by assumption)
           have q9 : x3_2 < (a0.size : Int) := of_decide_eq_true (by assumption)
           have hx9 := zqs a0 x3_2
           replace p9 := eq_true p9
           replace q9 := eq_true q9
           have p11 : 0 ≤ (x3_2 : Int) := of_decide_eq_true (by assumption)
           have q11 : x3_2 < (a0.size : Int) := of_decide_eq_true (by assumption)
           have hx11 := zqs a0 x3_2
           replace p11 := eq_true p11
           replace q11 := eq_true q11
           have p13 : 0 ≤ (x3_2 : Int) := of_decide_eq_true (by assumption)
           have q13 : x3_2 < (a0.size : Int) := of_decide_eq_true (by assumption)
           have hx13 := zqs a0 x3_2
           replace p13 := eq_true p13
           replace q13 := eq_true q13
           go_wp2
           go_roundg k2
           case measure => have := HJ1.out; have := HK2.out; omega
           case rel => exact ⟨(wrap64 (x3_2 + 1)), (by first | rfl | (simp [*]; done)), H', ⟨by have := HJ1.out; have := HK2.out; omega⟩, by repeat (first | exact Drawn0.refl _ | apply Drawn0.step)⟩
          ·rw [if_neg c12] at H
           have c12b0 : decide (48 ≤ (bt a0 x3_2)) = false := decide_eq_false c12
           clear c12
           have H' := Aside0.mk H
           clear H
           have p7 : 0 ≤ (x3_2 : Int) := of_decide_eq_true (by assumption)
           have q7 : x3_2 < (a0.size : Int) := of_decide_eq_true (by assumption)
           have hx7 := zqs a0 x3_2
           replace p7 := eq_true p7
           replace q7 := eq_true q7
           have p9 : 0 ≤ (x3_2 : Int) := of_decide_eq_true (by assumption)
           have q9 : x3_2 < (a0.size : Int) := of_decide_eq_true (by assumption)
           have hx9 := zqs a0 x3_2
           replace p9 := eq_true p9
           replace q9 := eq_true q9
           have p11 : 0 ≤ (x3_2 : Int) := of_decide_eq_true (by assumption)
           have q11 : x3_2 < (a0.size : Int) := of_decide_eq_true (by assumption)
           have hx11 := zqs a0 x3_2
           replace p11 := eq_true p11
           replace q11 := eq_true q11
           go_wp2
           go_roundg k2
           case measure => have := HJ1.out; have := HK2.out; omega
           case rel => exact ⟨(wrap64 (x3_2 + 1)), (by first | rfl | (simp [*]; done)), H', ⟨by have := HJ1.out; have := HK2.out; omega⟩, by repeat (first | exact Drawn0.refl _ | apply Drawn0.step)⟩
         ·rw [if_neg c10] at H
          have c10b0 : decide ((bt a0 x3_2) ≤ 122) = false := decide_eq_false c10
          clear c10
          by_cases c15 : (bt a0 x3_2) ≥ 65
          ·rw [if_pos c15] at H
           have c15b0 : decide (65 ≤ (bt a0 x3_2)) = true := decide_eq_true c15
           clear c15
           by_cases c18 : (bt a0 x3_2) ≥ 48
           ·rw [if_pos c18] at H
            have c18b0 : decide (48 ≤ (bt a0 x3_2)) = true := decide_eq_true c18
            clear c18
            by_cases c20 : ((bt a0 x3_2) ≤ 90)
            ·rw [if_pos c20] at H
             have c20b0 : decide ((bt a0 x3_2) ≤ 90) = true := decide_eq_true c20
             clear c20
             have H' := Aside0.mk H
             clear H
             have p7 : 0 ≤ (x3_2 : Int) := of_decide_eq_true (by assumption)
             have q7 : x3_2 < (a0.size : Int) := of_decide_eq_true (by assumption)
             have hx7 := zqs a0 x3_2
             replace p7 := eq_true p7
             replace q7 := eq_true q7
             have p9 : 0 ≤ (x3_2 : Int) := of_decide_eq_true (by assumption)
             have q9 : x3_2 < (a0.size : Int) := of_decide_eq_true (by assumption)
             have hx9 := zqs a0 x3_2
             replace p9 := eq_true p9
             replace q9 := eq_true q9
             have p14 : 0 ≤ (x3_2 : Int) := of_decide_eq_true (by assumption)
             have q14 : x3_2 < (a0.size : Int) := of_decide_eq_true (by assumption)
             have hx14 := zqs a0 x3_2
             replace p14 := eq_true p14
             replace q14 := eq_true q14
             have p16 : 0 ≤ (x3_2 : Int) := of_decide_eq_true (by assumption)
             have q16 : x3_2 < (a0.size : Int) := of_decide_eq_true (by assumption)
             have hx16 := zqs a0 x3_2
             replace p16 := eq_true p16
             replace q16 := eq_true q16
             have p17 : 0 ≤ (x3_2 : Int) := of_decide_eq_true (by assumption)
             have q17 : x3_2 < (a0.size : Int) := of_decide_eq_true (by assumption)
             have hx17 := zqs a0 x3_2
             replace p17 := eq_true p17
             replace q17 := eq_true q17
             have p19 : 0 ≤ (x3_2 : Int) := of_decide_eq_true (by assumption)
             have q19 : x3_2 < (a0.size : Int) := of_decide_eq_true (by assumption)
             have hx19 := zqs a0 x3_2
             replace p19 := eq_true p19
             replace q19 := eq_true q19
             go_wp2
             go_roundg k2
             case measure => have := HJ1.out; have := HK2.out; omega
             case rel => exact ⟨(wrap64 (x3_2 + 1)), (by first | rfl | (simp [*]; done)), H', ⟨by have := HJ1.out; have := HK2.out; omega⟩, by repeat (first | exact Drawn0.refl _ | apply Drawn0.step)⟩
            ·rw [if_neg c20] at H
             have c20b0 : decide ((bt a0 x3_2) ≤ 90) = false := decide_eq_false c20
             clear c20
             by_cases c21 : x3_2 = 0
             ·rw [if_pos c21] at H
              have c21b0 : (x3_2 == 0) = true := beq_iff_eq.mpr c21
              have c21b1 : (x3_2 != 0) = false := bne_eq_false_iff_eq.mpr c21
              clear c21
              obtain rfl := Option.some.inj H
              have p7 : 0 ≤ (x3_2 : Int) := of_decide_eq_true (by assumption)
              have q7 : x3_2 < (a0.size : Int) := of_decide_eq_true (by assumption)
              have hx7 := zqs a0 x3_2
              replace p7 := eq_true p7
              replace q7 := eq_true q7
              have p9 : 0 ≤ (x3_2 : Int) := of_decide_eq_true (by assumption)
              have q9 : x3_2 < (a0.size : Int) := of_decide_eq_true (by assumption)
              have hx9 := zqs a0 x3_2
              replace p9 := eq_true p9
              replace q9 := eq_true q9
              have p14 : 0 ≤ (x3_2 : Int) := of_decide_eq_true (by assumption)
              have q14 : x3_2 < (a0.size : Int) := of_decide_eq_true (by assumption)
              have hx14 := zqs a0 x3_2
              replace p14 := eq_true p14
              replace q14 := eq_true q14
              have p16 : 0 ≤ (x3_2 : Int) := of_decide_eq_true (by assumption)
              have q16 : x3_2 < (a0.size : Int) := of_decide_eq_true (by assumption)
              have hx16 := zqs a0 x3_2
              replace p16 := eq_true p16
              replace q16 := eq_true q16
              have p17 : 0 ≤ (x3_2 : Int) := of_decide_eq_true (by assumption)
              have q17 : x3_2 < (a0.size : Int) := of_decide_eq_true (by assumption)
              have hx17 := zqs a0 x3_2
              replace p17 := eq_true p17
              replace q17 := eq_true q17
              have p19 : 0 ≤ (x3_2 : Int) := of_decide_eq_true (by assumption)
              have q19 : x3_2 < (a0.size : Int) := of_decide_eq_true (by assumption)
              have hx19 := zqs a0 x3_2
              replace p19 := eq_true p19
              replace q19 := eq_true q19
              go_wp2
              go_ret
              exact ⟨by first | rfl | (simp [*]; done), by repeat (first | exact Drawn0.refl _ | apply Drawn0.step)⟩
             ·rw [if_neg c21] at H
              have c21b0 : (x3_2 == 0) = false := beq_eq_false_iff_ne.mpr c21
              have c21b1 : (x3_2 != 0) = true := bne_iff_ne.mpr c21
              by_cases c22 : ((bt a0 x3_2) ≤ 57)
              ·rw [if_pos c22] at H
               have c22b0 : decide ((bt a0 x3_2) ≤ 57) = true := decide_eq_true c22
               clear c22
               have H' := Aside0.mk H
               clear H
               have p7 : 0 ≤ (x3_2 : Int) := of_decide_eq_true (by assumption)
               have q7 : x3_2 < (a0.size : Int) := of_decide_eq_true (by assumption)
               have hx7 := zqs a0 x3_2
               replace p7 := eq_true p7
               replace q7 := eq_true q7
               have p9 : 0 ≤ (x3_2 : Int) := of_decide_eq_true (by assumption)
               have q9 : x3_2 < (a0.size : Int) := of_decide_eq_true (by assumption)
               have hx9 := zqs a0 x3_2
               replace p9 := eq_true p9
               replace q9 := eq_true q9
               have p14 : 0 ≤ (x3_2 : Int) := of_decide_eq_true (by assumption)
               have q14 : x3_2 < (a0.size : Int) := of_decide_eq_true (by assumption)
               have hx14 := zqs a0 x3_2
               replace p14 := eq_true p14
               replace q14 := eq_true q14
               have p16 : 0 ≤ (x3_2 : Int) := of_decide_eq_true (by assumption)
               have q16 : x3_2 < (a0.size : Int) := of_decide_eq_true (by assumption)
               have hx16 := zqs a0 x3_2
               replace p16 := eq_true p16
               replace q16 := eq_true q16
               have p17 : 0 ≤ (x3_2 : Int) := of_decide_eq_true (by assumption)
               have q17 : x3_2 < (a0.size : Int) := of_decide_eq_true (by assumption)
               have hx17 := zqs a0 x3_2
               replace p17 := eq_true p17
               replace q17 := eq_true q17
               have p19 : 0 ≤ (x3_2 : Int) := of_decide_eq_true (by assumption)
               have q19 : x3_2 < (a0.size : Int) := of_decide_eq_true (by assumption)
               have hx19 := zqs a0 x3_2
               replace p19 := eq_true p19
               replace q19 := eq_true q19
               go_wp2
               go_roundg k2
               case measure => have := HJ1.out; have := HK2.out; omega
               case rel => exact ⟨(wrap64 (x3_2 + 1)), (by first | rfl | (simp [*]; done)), H', ⟨by have := HJ1.out; have := HK2.out; omega⟩, by repeat (first | exact Drawn0.refl _ | apply Drawn0.step)⟩
              ·rw [if_neg c22] at H
               have c22b0 : decide ((bt a0 x3_2) ≤ 57) = false := decide_eq_false c22
               clear c22
               obtain rfl := Option.some.inj H
               have p7 : 0 ≤ (x3_2 : Int) := of_decide_eq_true (by assumption)
               have q7 : x3_2 < (a0.size : Int) := of_decide_eq_true (by assumption)
               have hx7 := zqs a0 x3_2
               replace p7 := eq_true p7
               replace q7 := eq_true q7
               have p9 : 0 ≤ (x3_2 : Int) := of_decide_eq_true (by assumption)
               have q9 : x3_2 < (a0.size : Int) := of_decide_eq_true (by assumption)
               have hx9 := zqs a0 x3_2
               replace p9 := eq_true p9
               replace q9 := eq_true q9
               have p14 : 0 ≤ (x3_2 : Int) := of_decide_eq_true (by assumption)
               have q14 : x3_2 < (a0.size : Int) := of_decide_eq_true (by assumption)
               have hx14 := zqs a0 x3_2
               replace p14 := eq_true p14
               replace q14 := eq_true q14
               have p16 : 0 ≤ (x3_2 : Int) := of_decide_eq_true (by assumption)
               have q16 : x3_2 < (a0.size : Int) := of_decide_eq_true (by assumption)
               have hx16 := zqs a0 x3_2
               replace p16 := eq_true p16
               replace q16 := eq_true q16
               have p17 : 0 ≤ (x3_2 : Int) := of_decide_eq_true (by assumption)
               have q17 : x3_2 < (a0.size : Int) := of_decide_eq_true (by assumption)
               have hx17 := zqs a0 x3_2
               replace p17 := eq_true p17
               replace q17 := eq_true q17
               have p19 : 0 ≤ (x3_2 : Int) := of_decide_eq_true (by assumption)
               have q19 : x3_2 < (a0.size : Int) := of_decide_eq_true (by assumption)
               have hx19 := zqs a0 x3_2
               replace p19 := eq_true p19
               replace q19 := eq_true q19
               go_wp2
               go_ret
               exact ⟨by first | rfl | (simp [*]; done), by repeat (first | exact Drawn0.refl _ | apply Drawn0.step)⟩
           ·rw [if_neg c18] at H
            have c18b0 : decide (48 ≤ (bt a0 x3_2)) = false := decide_eq_false c18
            clear c18
            by_cases c23 : ((bt a0 x3_2) ≤ 90)
            ·rw [if_pos c23] at H
             have c23b0 : decide ((bt a0 x3_2) ≤ 90) = true := decide_eq_true c23
             clear c23
             have H' := Aside0.mk H
             clear H
             have p7 : 0 ≤ (x3_2 : Int) := of_decide_eq_true (by assumption)
             have q7 : x3_2 < (a0.size : Int) := of_decide_eq_true (by assumption)
             have hx7 := zqs a0 x3_2
             replace p7 := eq_true p7
             replace q7 := eq_true q7
             have p9 : 0 ≤ (x3_2 : Int) := of_decide_eq_true (by assumption)
             have q9 : x3_2 < (a0.size : Int) := of_decide_eq_true (by assumption)
             have hx9 := zqs a0 x3_2
             replace p9 := eq_true p9
             replace q9 := eq_true q9
             have p14 : 0 ≤ (x3_2 : Int) := of_decide_eq_true (by assumption)
             have q14 : x3_2 < (a0.size : Int) := of_decide_eq_true (by assumption)
             have hx14 := zqs a0 x3_2
             replace p14 := eq_true p14
             replace q14 := eq_true q14
             have p16 : 0 ≤ (x3_2 : Int) := of_decide_eq_true (by assumption)
             have q16 : x3_2 < (a0.size : Int) := of_decide_eq_true (by assumption)
             have hx16 := zqs a0 x3_2
             replace p16 := eq_true p16
             replace q16 := eq_true q16
             have p17 : 0 ≤ (x3_2 : Int) := of_decide_eq_true (by assumption)
             have q17 : x3_2 < (a0.size : Int) := of_decide_eq_true (by assumption)
             have hx17 := zqs a0 x3_2
             replace p17 := eq_true p17
             replace q17 := eq_true q17
             go_wp2
             go_roundg k2
             case measure => have := HJ1.out; have := HK2.out; omega
             case rel => exact ⟨(wrap64 (x3_2 + 1)), (by first | rfl | (simp [*]; done)), H', ⟨by have := HJ1.out; have := HK2.out; omega⟩, by repeat (first | exact Drawn0.refl _ | apply Drawn0.step)⟩
            ·rw [if_neg c23] at H
             have c23b0 : decide ((bt a0 x3_2) ≤ 90) = false := decide_eq_false c23
             clear c23
             by_cases c24 : x3_2 = 0
             ·rw [if_pos c24] at H
              have c24b0 : (x3_2 == 0) = true := beq_iff_eq.mpr c24
              have c24b1 : (x3_2 != 0) = false := bne_eq_false_iff_eq.mpr c24
              clear c24
              obtain rfl := Option.some.inj H
              have p7 : 0 ≤ (x3_2 : Int) := of_decide_eq_true (by assumption)
              have q7 : x3_2 < (a0.size : Int) := of_decide_eq_true (by assumption)
              have hx7 := zqs a0 x3_2
              replace p7 := eq_true p7
              replace q7 := eq_true q7
              have p9 : 0 ≤ (x3_2 : Int) := of_decide_eq_true (by assumption)
              have q9 : x3_2 < (a0.size : Int) := of_decide_eq_true (by assumption)
              have hx9 := zqs a0 x3_2
              replace p9 := eq_true p9
              replace q9 := eq_true q9
              have p14 : 0 ≤ (x3_2 : Int) := of_decide_eq_true (by assumption)
              have q14 : x3_2 < (a0.size : Int) := of_decide_eq_true (by assumption)
              have hx14 := zqs a0 x3_2
              replace p14 := eq_true p14
              replace q14 := eq_true q14
              have p16 : 0 ≤ (x3_2 : Int) := of_decide_eq_true (by assumption)
              have q16 : x3_2 < (a0.size : Int) := of_decide_eq_true (by assumption)
              have hx16 := zqs a0 x3_2
              replace p16 := eq_true p16
              replace q16 := eq_true q16
              have p17 : 0 ≤ (x3_2 : Int) := of_decide_eq_true (by assumption)
              have q17 : x3_2 < (a0.size : Int) := of_decide_eq_true (by assumption)
              have hx17 := zqs a0 x3_2
              replace p17 := eq_true p17
              replace q17 := eq_true q17
              go_wp2
              go_ret
              exact ⟨by first | rfl | (simp [*]; done), by repeat (first | exact Drawn0.refl _ | apply Drawn0.step)⟩
             ·rw [if_neg c24] at H
              have c24b0 : (x3_2 == 0) = false := beq_eq_false_iff_ne.mpr c24
              have c24b1 : (x3_2 != 0) = true := bne_iff_ne.mpr c24
              obtain rfl := Option.some.inj H
              have p7 : 0 ≤ (x3_2 : Int) := of_decide_eq_true (by assumption)
              have q7 : x3_2 < (a0.size : Int) := of_decide_eq_true (by assumption)
              have hx7 := zqs a0 x3_2
              replace p7 := eq_true p7
              replace q7 := eq_true q7
              have p9 : 0 ≤ (x3_2 : Int) := of_decide_eq_true (by assumption)
              have q9 : x3_2 < (a0.size : Int) := of_decide_eq_true (by assumption)
              have hx9 := zqs a0 x3_2
              replace p9 := eq_true p9
              replace q9 := eq_true q9
              have p14 : 0 ≤ (x3_2 : Int) := of_decide_eq_true (by assumption)
              have q14 : x3_2 < (a0.size : Int) := of_decide_eq_true (by assumption)
              have hx14 := zqs a0 x3_2
              replace p14 := eq_true p14
              replace q14 := eq_true q14
              have p16 : 0 ≤ (x3_2 : Int) := of_decide_eq_true (by assumption)
              have q16 : x3_2 < (a0.size : Int) := of_decide_eq_true (by assumption)
              have hx16 := zqs a0 x3_2
              replace p16 := eq_true p16
              replace q16 := eq_true q16
              have p17 : 0 ≤ (x3_2 : Int) := of_decide_eq_true (by assumption)
              have q17 : x3_2 < (a0.size : Int) := of_decide_eq_true (by assumption)
              have hx17 := zqs a0 x3_2
              replace p17 := eq_true p17
              replace q17 := eq_true q17
              go_wp2
              go_ret
              exact ⟨by first | rfl | (simp [*]; done), by repeat (first | exact Drawn0.refl _ | apply Drawn0.step)⟩
          ·rw [if_neg c15] at H
           have c15b0 : decide (65 ≤ (bt a0 x3_2)) = false := decide_eq_false c15
           clear c15
           by_cases c26 : (bt a0 x3_2) ≥ 48
           ·rw [if_pos c26] at H
            have c26b0 : decide (48 ≤ (bt a0 x3_2)) = true := decide_eq_true c26
            clear c26
            by_cases c28 : x3_2 = 0
            ·rw [if_pos c28] at H
             have c28b0 : (x3_2 == 0) = true := beq_iff_eq.mpr c28
             have c28b1 : (x3_2 != 0) = false := bne_eq_false_iff_eq.mpr c28
             clear c28
             obtain rfl := Option.some.inj H
             have p7 : 0 ≤ (x3_2 : Int) := of_decide_eq_true (by assumption)
             have q7 : x3_2 < (a0.size : Int) := of_decide_eq_true (by assumption)
             have hx7 := zqs a0 x3_2
             replace p7 := eq_true p7
             replace q7 := eq_true q7
             have p9 : 0 ≤ (x3_2 : Int) := of_decide_eq_true (by assumption)
             have q9 : x3_2 < (a0.size : Int) := of_decide_eq_true (by assumption)
             have hx9 := zqs a0 x3_2
             replace p9 := eq_true p9
             replace q9 := eq_true q9
             have p14 : 0 ≤ (x3_2 : Int) := of_decide_eq_true (by assumption)
             have q14 : x3_2 < (a0.size : Int) := of_decide_eq_true (by assumption)
             have hx14 := zqs a0 x3_2
             replace p14 := eq_true p14
             replace q14 := eq_true q14
             have p25 : 0 ≤ (x3_2 : Int) := of_decide_eq_true (by assumption)
             have q25 : x3_2 < (a0.size : Int) := of_decide_eq_true (by assumption)
             have hx25 := zqs a0 x3_2
             replace p25 := eq_true p25
             replace q25 := eq_true q25
             have p27 : 0 ≤ (x3_2 : Int) := of_decide_eq_true (by assumption)
             have q27 : x3_2 < (a0.size : Int) := of_decide_eq_true (by assumption)
             have hx27 := zqs a0 x3_2
             replace p27 := eq_true p27
             replace q27 := eq_true q27
             go_wp2
             go_ret
             exact ⟨by first | rfl | (simp [*]; done), by repeat (first | exact Drawn0.refl _ | apply Drawn0.step)⟩
            ·rw [if_neg c28] at H
             have c28b0 : (x3_2 == 0) = false := beq_eq_false_iff_ne.mpr c28
             have c28b1 : (x3_2 != 0) = true := bne_iff_ne.mpr c28
             by_cases c29 : ((bt a0 x3_2) ≤ 57)
             ·rw [if_pos c29] at H
              have c29b0 : decide ((bt a0 x3_2) ≤ 57) = true := decide_eq_true c29
              clear c29
              have H' := Aside0.mk H
              clear H
              have p7 : 0 ≤ (x3_2 : Int) := of_decide_eq_true (by assumption)
              have q7 : x3_2 < (a0.size : Int) := of_decide_eq_true (by assumption)
              have hx7 := zqs a0 x3_2
              replace p7 := eq_true p7
              replace q7 := eq_true q7
              have p9 : 0 ≤ (x3_2 : Int) := of_decide_eq_true (by assumption)
              have q9 : x3_2 < (a0.size : Int) := of_decide_eq_true (by assumption)
              have hx9 := zqs a0 x3_2
              replace p9 := eq_true p9
              replace q9 := eq_true q9
              have p14 : 0 ≤ (x3_2 : Int) := of_decide_eq_true (by assumption)
              have q14 : x3_2 < (a0.size : Int) := of_decide_eq_true (by assumption)
              have hx14 := zqs a0 x3_2
              replace p14 := eq_true p14
              replace q14 := eq_true q14
              have p25 : 0 ≤ (x3_2 : Int) := of_decide_eq_true (by assumption)
              have q25 : x3_2 < (a0.size : Int) := of_decide_eq_true (by assumption)
              have hx25 := zqs a0 x3_2
              replace p25 := eq_true p25
              replace q25 := eq_true q25
              have p27 : 0 ≤ (x3_2 : Int) := of_decide_eq_true (by assumption)
              have q27 : x3_2 < (a0.size : Int) := of_decide_eq_true (by assumption)
              have hx27 := zqs a0 x3_2
              replace p27 := eq_true p27
              replace q27 := eq_true q27
              go_wp2
              go_roundg k2
              case measure => have := HJ1.out; have := HK2.out; omega
              case rel => exact ⟨(wrap64 (x3_2 + 1)), (by first | rfl | (simp [*]; done)), H', ⟨by have := HJ1.out; have := HK2.out; omega⟩, by repeat (first | exact Drawn0.refl _ | apply Drawn0.step)⟩
             ·rw [if_neg c29] at H
              have c29b0 : decide ((bt a0 x3_2) ≤ 57) = false := decide_eq_false c29
              clear c29
              obtain rfl := Option.some.inj H
              have p7 : 0 ≤ (x3_2 : Int) := of_decide_eq_true (by assumption)
              have q7 : x3_2 < (a0.size : Int) := of_decide_eq_true (by assumption)
              have hx7 := zqs a0 x3_2
              replace p7 := eq_true p7
              replace q7 := eq_true q7
              have p9 : 0 ≤ (x3_2 : Int) := of_decide_eq_true (by assumption)
              have q9 : x3_2 < (a0.size : Int) := of_decide_eq_true (by assumption)
              have hx9 := zqs a0 x3_2
              replace p9 := eq_true p9
              replace q9 := eq_true q9
              have p14 : 0 ≤ (x3_2 : Int) := of_decide_eq_true (by assumption)
              have q14 : x3_2 < (a0.size : Int) := of_decide_eq_true (by assumption)
              have hx14 := zqs a0 x3_2
              replace p14 := eq_true p14
              replace q14 := eq_true q14
              have p25 : 0 ≤ (x3_2 : Int) := of_decide_eq_true (by assumption)
              have q25 : x3_2 < (a0.size : Int) := of_decide_eq_true (by assumption)
              have hx25 := zqs a0 x3_2
              replace p25 := eq_true p25
              replace q25 := eq_true q25
              have p27 : 0 ≤ (x3_2 : Int) := of_decide_eq_true (by assumption)
              have q27 : x3_2 < (a0.size : Int) := of_decide_eq_true (by assumption)
              have hx27 := zqs a0 x3_2
              replace p27 := eq_true p27
              replace q27 := eq_true q27
              go_wp2
              go_ret
              exact ⟨by first | rfl | (simp [*]; done), by repeat (first | exact Drawn0.refl _ | apply Drawn0.step)⟩
           ·rw [if_neg c26] at H
            have c26b0 : decide (48 ≤ (bt a0 x3_2)) = false := decide_eq_false c26
            clear c26
            by_cases c30 : x3_2 = 0
            ·rw [if_pos c30] at H
             have c30b0 : (x3_2 == 0) = true := beq_iff_eq.mpr c30
             have c30b1 : (x3_2 != 0) = false := bne_eq_false_iff_eq.mpr c30
             clear c30
             obtain rfl := Option.some.inj H
             have p7 : 0 ≤ (x3_2 : Int) := of_decide_eq_true (by assumption)
             have q7 : x3_2 < (a0.size : Int) := of_decide_eq_true (by assumption)
             have hx7 := zqs a0 x3_2
             replace p7 := eq_true p7
             replace q7 := eq_true q7
             have p9 : 0 ≤ (x3_2 : Int) := of_decide_eq_true (by assumption)
             have q9 : x3_2 < (a0.size : Int) := of_decide_eq_true (by assumption)
             have hx9 := zqs a0 x3_2
             replace p9 := eq_true p9
             replace q9 := eq_true q9
             have p14 : 0 ≤ (x3_2 : Int) := of_decide_eq_true (by assumption)
             have q14 : x3_2 < (a0.size : Int) := of_decide_eq_true (by assumption)
             have hx14 := zqs a0 x3_2
             replace p14 := eq_true p14
             replace q14 := eq_true q14
             have p25 : 0 ≤ (x3_2 : Int) := of_decide_eq_true (by assumption)
             have q25 : x3_2 < (a0.size : Int) := of_decide_eq_true (by assumption)
             have hx25 := zqs a0 x3_2
             replace p25 := eq_true p25
             replace q25 := eq_true q25
             go_wp2
             go_ret
             exact ⟨by first | rfl | (simp [*]; done), by repeat (first | exact Drawn0.refl _ | apply Drawn0.step)⟩
            ·rw [if_neg c30] at H
             have c30b0 : (x3_2 == 0) = false := beq_eq_false_iff_ne.mpr c30
             have c30b1 : (x3_2 != 0) = true := bne_iff_ne.mpr c30
             obtain rfl := Option.some.inj H
             have p7 : 0 ≤ (x3_2 : Int) := of_decide_eq_true (by assumption)
             have q7 : x3_2 < (a0.size : Int) := of_decide_eq_true (by assumption)
             have hx7 := zqs a0 x3_2
             replace p7 := eq_true p7
             replace q7 := eq_true q7
             have p9 : 0 ≤ (x3_2 : Int) := of_decide_eq_true (by assumption)
             have q9 : x3_2 < (a0.size : Int) := of_decide_eq_true (by assumption)
             have hx9 := zqs a0 x3_2
             replace p9 := eq_true p9
             replace q9 := eq_true q9
             have p14 : 0 ≤ (x3_2 : Int) := of_decide_eq_true (by assumption)
             have q14 : x3_2 < (a0.size : Int) := of_decide_eq_true (by assumption)
             have hx14 := zqs a0 x3_2
             replace p14 := eq_true p14
             replace q14 := eq_true q14
             have p25 : 0 ≤ (x3_2 : Int) := of_decide_eq_true (by assumption)
             have q25 : x3_2 < (a0.size : Int) := of_decide_eq_true (by assumption)
             have hx25 := zqs a0 x3_2
             replace p25 := eq_true p25
             replace q25 := eq_true q25
             go_wp2
             go_ret
             exact ⟨by first | rfl | (simp [*]; done), by repeat (first | exact Drawn0.refl _ | apply Drawn0.step)⟩
        ·rw [if_neg c8] at H
         have c8b0 : decide (97 ≤ (bt a0 x3_2)) = false := decide_eq_false c8
         clear c8
         by_cases c32 : (bt a0 x3_2) ≥ 65
         ·rw [if_pos c32] at H
          have c32b0 : decide (65 ≤ (bt a0 x3_2)) = true := decide_eq_true c32
          clear c32
          by_cases c35 : (bt a0 x3_2) ≥ 48
          ·rw [if_pos c35] at H
           have c35b0 : decide (48 ≤ (bt a0 x3_2)) = true := decide_eq_true c35
           clear c35
           by_cases c37 : ((bt a0 x3_2) ≤ 90)
           ·rw [if_pos c37] at H
            have c37b0 : decide ((bt a0 x3_2) ≤ 90) = true := decide_eq_true c37
            clear c37
            have H' := Aside0.mk H
            clear H
            have p7 : 0 ≤ (x3_2 : Int) := of_decide_eq_true (by assumption)
            have q7 : x3_2 < (a0.size : Int) := of_decide_eq_true (by assumption)
            have hx7 := zqs a0 x3_2
            replace p7 := eq_true p7
            replace q7 := eq_true q7
            have p31 : 0 ≤ (x3_2 : Int) := of_decide_eq_true (by assumption)
            have q31 : x3_2 < (a0.size : Int) := of_decide_eq_true (by assumption)
            have hx31 := zqs a0 x3_2
            replace p31 := eq_true p31
            replace q31 := eq_true q31
            have p33 : 0 ≤ (x3_2 : Int) := of_decide_eq_true (by assumption)
            have q33 : x3_2 < (a0.size : Int) := of_decide_eq_true (by assumption)
            have hx33 := zqs a0 x3_2
            replace p33 := eq_true p33
            replace q33 := eq_true q33
            have p34 : 0 ≤ (x3_2 : Int) := of_decide_eq_true (by assumption)
            have q34 : x3_2 < (a0.size : Int) := of_decide_eq_true (by assumption)
            have hx34 := zqs a0 x3_2
            replace p34 := eq_true p34
            replace q34 := eq_true q34
            have p36 : 0 ≤ (x3_2 : Int) := of_decide_eq_true (by assumption)
            have q36 : x3_2 < (a0.size : Int) := of_decide_eq_true (by assumption)
            have hx36 := zqs a0 x3_2
            replace p36 := eq_true p36
            replace q36 := eq_true q36
            go_wp2
            go_roundg k2
            case measure => have := HJ1.out; have := HK2.out; omega
            case rel => exact ⟨(wrap64 (x3_2 + 1)), (by first | rfl | (simp [*]; done)), H', ⟨by have := HJ1.out; have := HK2.out; omega⟩, by repeat (first | exact Drawn0.refl _ | apply Drawn0.step)⟩
           ·rw [if_neg c37] at H
            have c37b0 : decide ((bt a0 x3_2) ≤ 90) = false := decide_eq_false c37
            clear c37
            by_cases c38 : x3_2 = 0
            ·rw [if_pos c38] at H
             have c38b0 : (x3_2 == 0) = true := beq_iff_eq.mpr c38
             have c38b1 : (x3_2 != 0) = false := bne_eq_false_iff_eq.mpr c38
             clear c38
             obtain rfl := Option.some.inj H
             have p7 : 0 ≤ (x3_2 : Int) := of_decide_eq_true (by assumption)
             have q7 : x3_2 < (a0.size : Int) := of_decide_eq_true (by assumption)
             have hx7 := zqs a0 x3_2
             replace p7 := eq_true p7
             replace q7 := eq_true q7
             have p31 : 0 ≤ (x3_2 : Int) := of_decide_eq_true (by assumption)
             have q31 : x3_2 < (a0.size : Int) := of_decide_eq_true (by assumption)
             have hx31 := zqs a0 x3_2
             replace p31 := eq_true p31
             replace q31 := eq_true q31
             have p33 : 0 ≤ (x3_2 : Int) := of_decide_eq_true (by assumption)
             have q33 : x3_2 < (a0.size : Int) := of_decide_eq_true (by assumption)
             have hx33 := zqs a0 x3_2
             replace p33 := eq_true p33
             replace q33 := eq_true q33
             have p34 : 0 ≤ (x3_2 : Int) := of_decide_eq_true (by assumption)
             have q34 : x3_2 < (a0.size : Int) := of_decide_eq_true (by assumption)
             have hx34 := zqs a0 x3_2
             replace p34 := eq_true p34
             replace q34 := eq_true q34
             have p36 : 0 ≤ (x3_2 : Int) := of_decide_eq_true (by assumption)
             have q36 : x3_2 < (a0.size : Int) := of_decide_eq_true (by assumption)
             have hx36 := zqs a0 x3_2
             replace p36 := eq_true p36
             replace q36 := eq_true q36
             go_wp2
             go_ret
             exact ⟨by first | rfl | (simp [*]; done), by repeat (first | exact Drawn0.refl _ | apply Drawn0.step)⟩
            ·rw [if_neg c38] at H
             have c38b0 : (x3_2 == 0) = false := beq_eq_false_iff_ne.mpr c38
             have c38b1 : (x3_2 != 0) = true := bne_iff_ne.mpr c38
             by_cases c39 : ((bt a0 x3_2) ≤ 57)
             ·rw [if_pos c39] at H
              have c39b0 : decide ((bt a0 x3_2) ≤ 57) = true := decide_eq_true c39
              clear c39
              have H' := Aside0.mk H
              clear H
              have p7 : 0 ≤ (x3_2 : Int) := of_decide_eq_true (by assumption)
              have q7 : x3_2 < (a0.size : Int) := of_decide_eq_true (by assumption)
              have hx7 := zqs a0 x3_2
              replace p7 := eq_true p7
              replace q7 := eq_true q7
              have p31 : 0 ≤ (x3_2 : Int) := of_decide_eq_true (by assumption)
              have q31 : x3_2 < (a0.size : Int) := of_decide_eq_true (by assumption)
              have hx31 := zqs a0 x3_2
              replace p31 := eq_true p31
              replace q31 := eq_true q31
              have p33 : 0 ≤ (x3_2 : Int) := of_decide_eq_true (by assumption)
              have q33 : x3_2 < (a0.size : Int) := of_decide_eq_true (by assumption)
              have hx33 := zqs a0 x3_2
              replace p33 := eq_true p33
              replace q33 := eq_true q33
              have p34 : 0 ≤ (x3_2 : Int) := of_decide_eq_true (by assumption)
              have q34 : x3_2 < (a0.size : Int) := of_decide_eq_true (by assumption)
              have hx34 := zqs a0 x3_2
              replace p34 := eq_true p34
              replace q34 := eq_true q34
              have p36 : 0 ≤ (x3_2 : Int) := of_decide_eq_true (by assumption)
              have q36 : x3_2 < (a0.size : Int) := of_decide_eq_true (by assumption)
              have hx36 := zqs a0 x3_2
              replace p36 := eq_true p36
              replace q36 := eq_true q36
              go_wp2
              go_roundg k2
              case measure => have := HJ1.out; have := HK2.out; omega
              case rel => exact ⟨(wrap64 (x3_2 + 1)), (by first | rfl | (simp [*]; done)), H', ⟨by have := HJ1.out; have := HK2.out; omega⟩, by repeat (first | exact Drawn0.refl _ | apply Drawn0.step)⟩
             ·rw [if_neg c39] at H
              have c39b0 : decide ((bt a0 x3_2) ≤ 57) = false := decide_eq_false c39
              clear c39
              obtain rfl := Option.some.inj H
              have p7 : 0 ≤ (x3_2 : Int) := of_decide_eq_true (by assumption)
              have q7 : x3_2 < (a0.size : Int) := of_decide_eq_true (by assumption)
              have hx7 := zqs a0 x3_2
              replace p7 := eq_true p7
              replace q7 := eq_true q7
              have p31 : 0 ≤ (x3_2 : Int) := of_decide_eq_true (by assumption)
              have q31 : x3_2 < (a0.size : Int) := of_decide_eq_true (by assumption)
              have hx31 := zqs a0 x3_2
              replace p31 := eq_true p31
              replace q31 := eq_true q31
              have p33 : 0 ≤ (x3_2 : Int) := of_decide_eq_true (by assumption)
              have q33 : x3_2 < (a0.size : Int) := of_decide_eq_true (by assumption)
              have hx33 := zqs a0 x3_2
              replace p33 := eq_true p33
              replace q33 := eq_true q33
              have p34 : 0 ≤ (x3_2 : Int) := of_decide_eq_true (by assumption)
              have q34 : x3_2 < (a0.size : Int) := of_decide_eq_true (by assumption)
              have hx34 := zqs a0 x3_2
              replace p34 := eq_true p34
              replace q34 := eq_true q34
              have p36 : 0 ≤ (x3_2 : Int) := of_decide_eq_true (by assumption)
              have q36 : x3_2 < (a0.size : Int) := of_decide_eq_true (by assumption)
              have hx36 := zqs a0 x3_2
              replace p36 := eq_true p36
              replace q36 := eq_true q36
              go_wp2
              go_ret
              exact ⟨by first | rfl | (simp [*]; done), by repeat (first | exact Drawn0.refl _ | apply Drawn0.step)⟩
          ·rw [if_neg c35] at H
           have c35b0 : decide (48 ≤ (bt a0 x3_2)) = false := decide_eq_false c35
           clear c35
           by_cases c40 : ((bt a0 x3_2) ≤ 90)
           ·rw [if_pos c40] at H
            have c40b0 : decide ((bt a0 x3_2) ≤ 90) = true := decide_eq_true c40
            clear c40
            have H' := Aside0.mk H
            clear H
            have p7 : 0 ≤ (x3_2 : Int) := of_decide_eq_true (by assumption)
            have q7 : x3_2 < (a0.size : Int) := of_decide_eq_true (by assumption)
            have hx7 := zqs a0 x3_2
            replace p7 := eq_true p7
            replace q7 := eq_true q7
            have p31 : 0 ≤ (x3_2 : Int) := of_decide_eq_true (by assumption)
            have q31 : x3_2 < (a0.size : Int) := of_decide_eq_true (by assumption)
            have hx31 := zqs a0 x3_2
            replace p31 := eq_true p31
            replace q31 := eq_true q31
            have p33 : 0 ≤ (x3_2 : Int) := of_decide_eq_true (by assumption)
            have q33 : x3_2 < (a0.size : Int) := of_decide_eq_true (by assumption)
            have hx33 := zqs a0 x3_2
            replace p33 := eq_true p33
            replace q33 := eq_true q33
            have p34 : 0 ≤ (x3_2 : Int) := of_decide_eq_true (by assumption)
            have q34 : x3_2 < (a0.size : Int) := of_decide_eq_true (by assumption)
            have hx34 := zqs a0 x3_2
            replace p34 := eq_true p34
            replace q34 := eq_true q34
            go_wp2
            go_roundg k2
            case measure => have := HJ1.out; have := HK2.out; omega
            case rel => exact ⟨(wrap64 (x3_2 + 1)), (by first | rfl | (simp [*]; done)), H', ⟨by have := HJ1.out; have := HK2.out; omega⟩, by repeat (first | exact Drawn0.refl _ | apply Drawn0.step)⟩
           ·rw [if_neg c40] at H
            have c40b0 : decide ((bt a0 x3_2) ≤ 90) = false := decide_eq_false c40
            clear c40
            by_cases c41 : x3_2 = 0
            ·rw [if_pos c41] at H
             have c41b0 : (x3_2 == 0) = true := beq_iff_eq.mpr c41
             have c41b1 : (x3_2 != 0) = false := bne_eq_false_iff_eq.mpr c41
             clear c41
             obtain rfl := Option.some.inj H
             have p7 : 0 ≤ (x3_2 : Int) := of_decide_eq_true (by assumption)
             have q7 : x3_2 < (a0.size : Int) := of_decide_eq_true (by assumption)
             have hx7 := zqs a0 x3_2
             replace p7 := eq_true p7
             replace q7 := eq_true q7
             have p31 : 0 ≤ (x3_2 : Int) := of_decide_eq_true (by assumption)
             have q31 : x3_2 < (a0.size : Int) := of_decide_eq_true (by assumption)
             have hx31 := zqs a0 x3_2
             replace p31 := eq_true p31
             replace q31 := eq_true q31
             have p33 : 0 ≤ (x3_2 : Int) := of_decide_eq_true (by assumption)
             have q33 : x3_2 < (a0.size : Int) := of_decide_eq_true (by assumption)
             have hx33 := zqs a0 x3_2
             replace p33 := eq_true p33
             replace q33 := eq_true q33
             have p34 : 0 ≤ (x3_2 : Int) := of_decide_eq_true (by assumption)
             have q34 : x3_2 < (a0.size : Int) := of_decide_eq_true (by assumption)
             have hx34 := zqs a0 x3_2
             replace p34 := eq_true p34
             replace q34 := eq_true q34
             go_wp2
             go_ret
             exact ⟨by first | rfl | (simp [*]; done), by repeat (first | exact Drawn0.refl _ | apply Drawn0.step)⟩
            ·rw [if_neg c41] at H
             have c41b0 : (x3_2 == 0) = false := beq_eq_false_iff_ne.mpr c41
             have c41b1 : (x3_2 != 0) = true := bne_iff_ne.mpr c41
             obtain rfl := Option.some.inj H
             have p7 : 0 ≤ (x3_2 : Int) := of_decide_eq_true (by assumption)
             have q7 : x3_2 < (a0.size : Int) := of_decide_eq_true (by assumption)
             have hx7 := zqs a0 x3_2
             replace p7 := eq_true p7
             replace q7 := eq_true q7
             have p31 : 0 ≤ (x3_2 : Int) := of_decide_eq_true (by assumption)
             have q31 : x3_2 < (a0.size : Int) := of_decide_eq_true (by assumption)
             have hx31 := zqs a0 x3_2
             replace p31 := eq_true p31
             replace q31 := eq_true q31
             have p33 : 0 ≤ (x3_2 : Int) := of_decide_eq_true (by assumption)
             have q33 : x3_2 < (a0.size : Int) := of_decide_eq_true (by assumption)
             have hx33 := zqs a0 x3_2
             replace p33 := eq_true p33
             replace q33 := eq_true q33
             have p34 : 0 ≤ (x3_2 : Int) := of_decide_eq_true (by assumption)
             have q34 : x3_2 < (a0.size : Int) := of_decide_eq_true (by assumption)
             have hx34 := zqs a0 x3_2
             replace p34 := eq_true p34
             replace q34 := eq_true q34
             go_wp2
             go_ret
             exact ⟨by first | rfl | (simp [*]; done), by repeat (first | exact Drawn0.refl _ | apply Drawn0.step)⟩
         ·rw [if_neg c32] at H
          have c32b0 : decide (65 ≤ (bt a0 x3_2)) = false := decide_eq_false c32
          clear c32
          by_cases c43 : (bt a0 x3_2) ≥ 48
          ·rw [if_pos c43] at H
           have c43b0 : decide (48 ≤ (bt a0 x3_2)) = true := decide_eq_true c43
           clear c43
           by_cases c45 : x3_2 = 0
           ·rw [if_pos c45] at H
            have c45b0 : (x3_2 == 0) = true := beq_iff_eq.mpr c45
            have c45b1 : (x3_2 != 0) = false := bne_eq_false_iff_eq.mpr c45
            clear c45
            obtain rfl := Option.some.inj H
            have p7 : 0 ≤ (x3_2 : Int) := of_decide_eq_true (by assumption)
            have q7 : x3_2 < (a0.size : Int) := of_decide_eq_true (by assumption)
            have hx7 := zqs a0 x3_2
            replace p7 := eq_true p7
            replace q7 := eq_true q7
            have p31 : 0 ≤ (x3_2 : Int) := of_decide_eq_true (by assumption)
            have q31 : x3_2 < (a0.size : Int) := of_decide_eq_true (by assumption)
            have hx31 := zqs a0 x3_2
            replace p31 := eq_true p31
            replace q31 := eq_true q31
            have p42 : 0 ≤ (x3_2 : Int) := of_decide_eq_true (by assumption)
            have q42 : x3_2 < (a0.size : Int) := of_decide_eq_true (by assumption)
            have hx42 := zqs a0 x3_2
            replace p42 := eq_true p42
            replace q42 := eq_true q42
            have p44 : 0 ≤ (x3_2 : Int) := of_decide_eq_true (by assumption)
            have q44 : x3_2 < (a0.size : Int) := of_decide_eq_true (by assumption)
            have hx44 := zqs a0 x3_2
            replace p44 := eq_true p44
            replace q44 := eq_true q44
            go_wp2
            go_ret
            exact ⟨by first | rfl | (simp [*]; done), by repeat (first | exact Drawn0.refl _ | apply Drawn0.step)⟩
           ·rw [if_neg c45] at H
            have c45b0 : (x3_2 == 0) = false := beq_eq_false_iff_ne.mpr c45
            have c45b1 : (x3_2 != 0) = true := bne_iff_ne.mpr c45
            by_cases c46 : ((bt a0 x3_2) ≤ 57)
            ·rw [if_pos c46] at H
             have c46b0 : decide ((bt a0 x3_2) ≤ 57) = true := decide_eq_true c46
             clear c46
             have H' := Aside0.mk H
             clear H
             have p7 : 0 ≤ (x3_2 : Int) := of_decide_eq_true (by assumption)
             have q7 : x3_2 < (a0.size : Int) := of_decide_eq_true (by assumption)
             have hx7 := zqs a0 x3_2
             replace p7 := eq_true p7
             replace q7 := eq_true q7
             have p31 : 0 ≤ (x3_2 : Int) := of_decide_eq_true (by assumption)
             have q31 : x3_2 < (a0.size : Int) := of_decide_eq_true (by assumption)
             have hx31 := zqs a0 x3_2
             replace p31 := eq_true p31
             replace q31 := eq_true q31
             have p42 : 0 ≤ (x3_2 : Int) := of_decide_eq_true (by assumption)
             have q42 : x3_2 < (a0.size : Int) := of_decide_eq_true (by assumption)
             have hx42 := zqs a0 x3_2
             replace p42 := eq_true p42
             replace q42 := eq_true q42
             have p44 : 0 ≤ (x3_2 : Int) := of_decide_eq_true (by assumption)
             have q44 : x3_2 < (a0.size : Int) := of_decide_eq_true (by assumption)
             have hx44 := zqs a0 x3_2
             replace p44 := eq_true p44
             replace q44 := eq_true q44
             go_wp2
             go_roundg k2
             case measure => have := HJ1.out; have := HK2.out; omega
             case rel => exact ⟨(wrap64 (x3_2 + 1)), (by first | rfl | (simp [*]; done)), H', ⟨by have := HJ1.out; have := HK2.out; omega⟩, by repeat (first | exact Drawn0.refl _ | apply Drawn0.step)⟩
            ·rw [if_neg c46] at H
             have c46b0 : decide ((bt a0 x3_2) ≤ 57) = false := decide_eq_false c46
             clear c46
             obtain rfl := Option.some.inj H
             have p7 : 0 ≤ (x3_2 : Int) := of_decide_eq_true (by assumption)
             have q7 : x3_2 < (a0.size : Int) := of_decide_eq_true (by assumption)
             have hx7 := zqs a0 x3_2
             replace p7 := eq_true p7
             replace q7 := eq_true q7
             have p31 : 0 ≤ (x3_2 : Int) := of_decide_eq_true (by assumption)
             have q31 : x3_2 < (a0.size : Int) := of_decide_eq_true (by assumption)
             have hx31 := zqs a0 x3_2
             replace p31 := eq_true p31
             replace q31 := eq_true q31
             have p42 : 0 ≤ (x3_2 : Int) := of_decide_eq_true (by assumption)
             have q42 : x3_2 < (a0.size : Int) := of_decide_eq_true (by assumption)
             have hx42 := zqs a0 x3_2
             replace p42 := eq_true p42
             replace q42 := eq_true q42
             have p44 : 0 ≤ (x3_2 : Int) := of_decide_eq_true (by assumption)
             have q44 : x3_2 < (a0.size : Int) := of_decide_eq_true (by assumption)
             have hx44 := zqs a0 x3_2
             replace p44 := eq_true p44
             replace q44 := eq_true q44
             go_wp2
             go_ret
             exact ⟨by first | rfl | (simp [*]; done), by repeat (first | exact Drawn0.refl _ | apply Drawn0.step)⟩
          ·rw [if_neg c43] at H
           have c43b0 : decide (48 ≤ (bt a0 x3_2)) = false := decide_eq_false c43
           clear c43
           by_cases c47 : x3_2 = 0
           ·rw [if_pos c47] at H
            have c47b0 : (x3_2 == 0) = true := beq_iff_eq.mpr c47
            have c47b1 : (x3_2 != 0) = false := bne_eq_false_iff_eq.mpr c47
            clear c47
            obtain rfl := Option.some.inj H
            have p7 : 0 ≤ (x3_2 : Int) := of_decide_eq_true (by assumption)
            have q7 : x3_2 < (a0.size : Int) := of_decide_eq_true (by assumption)
            have hx7 := zqs a0 x3_2
            replace p7 := eq_true p7
            replace q7 := eq_true q7
            have p31 : 0 ≤ (x3_2 : Int) := of_decide_eq_true (by assumption)
            have q31 : x3_2 < (a0.size : Int) := of_decide_eq_true (by assumption)
            have hx31 := zqs a0 x3_2
            replace p31 := eq_true p31
            replace q31 := eq_true q31
            have p42 : 0 ≤ (x3_2 : Int) := of_decide_eq_true (by assumption)
            have q42 : x3_2 < (a0.size : Int) := of_decide_eq_true (by assumption)
            have hx42 := zqs a0 x3_2
            replace p42 := eq_true p42
            replace q42 := eq_true q42
            go_wp2
            go_ret
            exact ⟨by first | rfl | (simp [*]; done), by repeat (first | exact Drawn0.refl _ | apply Drawn0.step)⟩
           ·rw [if_neg c47] at H
            have c47b0 : (x3_2 == 0) = false := beq_eq_false_iff_ne.mpr c47
            have c47b1 : (x3_2 != 0) = true := bne_iff_ne.mpr c47
            obtain rfl := Option.some.inj H
            have p7 : 0 ≤ (x3_2 : Int) := of_decide_eq_true (by assumption)
            have q7 : x3_2 < (a0.size : Int) := of_decide_eq_true (by assumption)
            have hx7 := zqs a0 x3_2
            replace p7 := eq_true p7
            replace q7 := eq_true q7
            have p31 : 0 ≤ (x3_2 : Int) := of_decide_eq_true (by assumption)
            have q31 : x3_2 < (a0.size : Int) := of_decide_eq_true (by assumption)
            have hx31 := zqs a0 x3_2
            replace p31 := eq_true p31
            replace q31 := eq_true q31
            have p42 : 0 ≤ (x3_2 : Int) := of_decide_eq_true (by assumption)
            have q42 : x3_2 < (a0.size : Int) := of_decide_eq_true (by assumption)
            have hx42 := zqs a0 x3_2
            replace p42 := eq_true p42
            replace q42 := eq_true q42
            go_wp2
            go_ret
            exact ⟨by first | rfl | (simp [*]; done), by repeat (first | exact Drawn0.refl _ | apply Drawn0.step)⟩
       ·rw [if_neg c6] at H
        exact absurd H (by simp)
      ·rw [if_neg c5] at H
       have c5b0 : decide (x3_2 < (a0.size : Int)) = false := decide_eq_false c5
       clear c5
       obtain rfl := Option.some.inj H
       go_wp2
       go_ret
       exact ⟨by first | rfl | (simp [*]; done), by repeat (first | exact Drawn0.refl _ | apply Drawn0.step)⟩
end Go.Proofs.YtchekgnacodolaaGreatDoor.X
end
section
namespace Go.Proofs.YtchekgnacodolaaGreatDoor.X
open Go.RowKit Go.Proofs.YtchekgnacodolaaGreatDoorW.PrintWords Go.Proofs.YtchekgnacodolaaGreatDoorW.PrintLast Go.Proofs.YtchekgnacodolaaGreatDoorW.PrintMore
attribute [local go_sem] zqK zqL max_two min_two zqB zqC zqI zqJ
set_option linter.unusedVariables false
set_option linter.unusedSimpArgs false
def chancelref02_Has.l0 : Nat → List ByteArray → ByteArray → Int → Option (Bool)
 | 0, _, _, _ => none
 | k + 1, x0, x1, x5 => if x5 < (x0.length : Int) then (if 0 ≤ x5 then (if (rdOf ByteArray.empty x0 x5).toList = x1.toList then (some true) else (chancelref02_Has.l0 k x0 x1 (wrap64 (x5 + 1)))) else (none)) else (some false)
def chancelref02_Has.f (k : Nat) (l0 : List ByteArray) (a1 : ByteArray) : Option (Bool) := chancelref02_Has.l0 k l0 a1 0
theorem chancelref02_Has.mono_l : ∀ k, (∀ y0 y1 y2, LeO (chancelref02_Has.l0 k y0 y1 y2) (chancelref02_Has.l0 (k + 1) y0 y1 y2))
 | 0 => fun _ _ _ r h => by simp [chancelref02_Has.l0] at h
 | k + 1 => by
  have ih0 := chancelref02_Has.mono_l k
  ·intro y0 y1 y2
   unfold chancelref02_Has.l0
   repeat' first
   | (with_reducible exact ih0 _ _ _)
   | (with_reducible exact LeO.refl _)
   | (with_reducible exact LeO.none _)
   | (with_reducible refine LeO.ite ?_ ?_)
   | (with_reducible refine LeO.bind ?_ (fun _ => ?_))
   | exact ih0 _ _ _
   | exact LeO.none _
   | refine LeO.ite ?_ ?_
   | refine LeO.bind ?_ (fun _ => ?_)
theorem chancelref02_Has.mono : ∀ a0 a1 k, LeO (chancelref02_Has.f k a0 a1) (chancelref02_Has.f (k + 1) a0 a1) := by
 intro a0 a1 k
 have ih0 := chancelref02_Has.mono_l k
 unfold chancelref02_Has.f
 repeat' first
   | (with_reducible exact ih0 _ _ _)
   | (with_reducible exact LeO.refl _)
   | (with_reducible exact LeO.none _)
   | (with_reducible refine LeO.ite ?_ ?_)
   | (with_reducible refine LeO.bind ?_ (fun _ => ?_))
   | exact ih0 _ _ _
   | exact LeO.none _
   | refine LeO.ite ?_ ?_
   | refine LeO.bind ?_ (fun _ => ?_)
theorem chancelref02_Has.calls (k : Nat) (A0 : Option Addr) (c0 : Nat) (l0 : List ByteArray) (a1 : ByteArray) (r : Bool) (w : World) (hr0 : Kd.C Kd.string w A0 l0.length l0) (hc0 : l0.length ≤ c0) (h : chancelref02_Has.f k l0 a1 = some r) :
  Calls Tryz.prog 142 #[.slice A0 l0.length c0, .string a1] w fun e w' => e = .returned (.bool r) ∧ Drawn0 w w' := by
 have HR0 := Aside0.mk hr0
 have HC0 := Aside0.mk hc0
 clear hr0 hc0
 have H : (chancelref02_Has.l0 k l0 a1 0) = some r := h
 clear h
 have H' := Aside0.mk H
 clear H
 go_enter Tryz.func142, Tryz.ntmps142
 go_wp2
 go_loopg [5] k (fun kq v5 w' => ∃ (x5_1 : Int), v5 = .int .i64 x5_1 ∧ Aside0 (chancelref02_Has.l0 kq l0 a1 x5_1 = some r) ∧ Aside0 (kq ≤ k) ∧ Drawn0 w w')
 case atStart => exact ⟨(0), (by first | rfl | (simp [*]; done)), H', ⟨Nat.le_refl _⟩, by repeat (first | exact Drawn0.refl _ | apply Drawn0.step)⟩
 case round =>
  clear H'
  try clear c1
  try clear p2
  obtain ⟨x5_1, rfl, HA, HK1, ⟨m1, rfl⟩⟩ := hrel
  cases gk with
  | zero => exact absurd HA.out (by simp [chancelref02_Has.l0])
  | succ k1 =>
   have H := HA.out
   clear HA
   simp only [chancelref02_Has.l0] at H
   by_cases c3 : x5_1 < (l0.length : Int)
   ·rw [if_pos c3] at H
    have c3b0 : decide (x5_1 < (l0.length : Int)) = true := decide_eq_true c3
    clear c3
    by_cases c4 : 0 ≤ x5_1
    ·rw [if_pos c4] at H
     have c4b0 : decide (0 ≤ x5_1) = true := decide_eq_true c4
     clear c4
     by_cases c5 : (rdOf ByteArray.empty l0 x5_1).toList = a1.toList
     ·rw [if_pos c5] at H
      have c5b0 : ((rdOf ByteArray.empty l0 x5_1).toList == a1.toList) = true := beq_iff_eq.mpr c5
      have c5b1 : ((rdOf ByteArray.empty l0 x5_1).toList != a1.toList) = false := bne_eq_false_iff_eq.mpr c5
      clear c5
      obtain rfl := Option.some.inj H
      have p241 : 0 ≤ (x5_1 : Int) := of_decide_eq_true (by assumption)
      have q241 : x5_1 < (l0.length : Int) := of_decide_eq_true (by assumption)
      obtain ⟨ad241, e241, hx241_0⟩ := Kd.at_string HR0.out x5_1 p241 q241
      cases e241
      replace p241 := eq_true p241
      replace q241 := eq_true q241
      go_wp2
      go_ret
      exact ⟨by first | rfl | (simp [*]; done), by repeat (first | exact Drawn0.refl _ | apply Drawn0.step)⟩
     ·rw [if_neg c5] at H
      have c5b0 : ((rdOf ByteArray.empty l0 x5_1).toList == a1.toList) = false := beq_eq_false_iff_ne.mpr c5
      have c5b1 : ((rdOf ByteArray.empty l0 x5_1).toList != a1.toList) = true := bne_iff_ne.mpr c5
      have H' := Aside0.mk H
      clear H
      have p241 : 0 ≤ (x5_1 : Int) := of_decide_eq_true (by assumption)
      have q241 : x5_1 < (l0.length : Int) := of_decide_eq_true (by assumption)
      obtain ⟨ad241, e241, hx241_0⟩ := Kd.at_string HR0.out x5_1 p241 q241
      cases e241
      replace p241 := eq_true p241
      replace q241 := eq_true q241
      go_wp2
      go_roundg k1
      case measure => have := HK1.out; omega
      case rel => exact ⟨(wrap64 (x5_1 + 1)), (by first | rfl | (simp [*]; done)), H', ⟨by have := HK1.out; omega⟩, by repeat (first | exact Drawn0.refl _ | apply Drawn0.step)⟩
    ·rw [if_neg c4] at H
     exact absurd H (by simp)
   ·rw [if_neg c3] at H
    have c3b0 : decide (x5_1 < (l0.length : Int)) = false := decide_eq_false c3
    clear c3
    obtain rfl := Option.some.inj H
    go_wp2
    go_ret
    exact ⟨by first | rfl | (simp [*]; done), by repeat (first | exact Drawn0.refl _ | apply Drawn0.step)⟩
end Go.Proofs.YtchekgnacodolaaGreatDoor.X
end
section
namespace Go.Proofs.YtchekgnacodolaaGreatDoor.X
open Go.RowKit Go.Proofs.YtchekgnacodolaaGreatDoorW.PrintWords Go.Proofs.YtchekgnacodolaaGreatDoorW.PrintLast Go.Proofs.YtchekgnacodolaaGreatDoorW.PrintMore
attribute [local go_sem] zqK zqL max_two min_two zqB zqC zqI zqJ
set_option linter.unusedVariables false
set_option linter.unusedSimpArgs false
def chancelref02_Keyword.f (k : Nat) (a0 : ByteArray) : Option (Bool) := (chancelref02_Has.f k (([(⟨#[102, 117, 110]⟩ : ByteArray), (⟨#[108, 101, 116]⟩ : ByteArray), (⟨#[105, 110]⟩ : ByteArray), (⟨#[105, 102]⟩ : ByteArray), (⟨#[116, 104, 101, 110]⟩ : ByteArray), (⟨#[101, 108, 115, 101]⟩ : ByteArray), (⟨#[119, 104, 105, 108, 101]⟩ : ByteArray), (⟨#[100, 111]⟩ : ByteArray), (⟨#[114, 97, 105, 115, 101]⟩ : ByteArray), (⟨#[116, 114, 121]⟩ : ByteArray), (⟨#[119, 105, 116, 104]⟩ : ByteArray), (⟨#[105, 110, 112, 117, 116]⟩ : ByteArray), (⟨#[99, 101, 108, 108]⟩ : ByteArray), (⟨#[100, 101, 102]⟩ : ByteArray)] : List ByteArray)) a0).bind fun t245 => (some t245)
theorem chancelref02_Keyword.mono : ∀ a0 k, LeO (chancelref02_Keyword.f k a0) (chancelref02_Keyword.f (k + 1) a0) := by
 intro a0 k
 unfold chancelref02_Keyword.f
 repeat' first
   | (with_reducible exact chancelref02_Has.mono _ _ _)
   | (with_reducible exact LeO.refl _)
   | (with_reducible exact LeO.none _)
   | (with_reducible refine LeO.ite ?_ ?_)
   | (with_reducible refine LeO.bind ?_ (fun _ => ?_))
   | exact chancelref02_Has.mono _ _ _
   | exact LeO.none _
   | refine LeO.ite ?_ ?_
   | refine LeO.bind ?_ (fun _ => ?_)
theorem chancelref02_Keyword.calls (k : Nat) (a0 : ByteArray) (r : Bool) (w : World) (h : chancelref02_Keyword.f k a0 = some r) :
  Calls Tryz.prog 140 #[.string a0] w fun e w' => e = .returned (.bool r) ∧ Below w.heap.size w w' := by
 have HB := Aside0.mk (Below.refl w.heap.size w)
 have H : ((chancelref02_Has.f k (([(⟨#[102, 117, 110]⟩ : ByteArray), (⟨#[108, 101, 116]⟩ : ByteArray), (⟨#[105, 110]⟩ : ByteArray), (⟨#[105, 102]⟩ : ByteArray), (⟨#[116, 104, 101, 110]⟩ : ByteArray), (⟨#[101, 108, 115, 101]⟩ : ByteArray), (⟨#[119, 104, 105, 108, 101]⟩ : ByteArray), (⟨#[100, 111]⟩ : ByteArray), (⟨#[114, 97, 105, 115, 101]⟩ : ByteArray), (⟨#[116, 114, 121]⟩ : ByteArray), (⟨#[119, 105, 116, 104]⟩ : ByteArray), (⟨#[105, 110, 112, 117, 116]⟩ : ByteArray), (⟨#[99, 101, 108, 108]⟩ : ByteArray), (⟨#[100, 101, 102]⟩ : ByteArray)] : List ByteArray)) a0).bind fun t245 => (some t245)) = some r := h
 clear h
 obtain ⟨y242, hy242⟩ : ∃ y_ : List ByteArray, y_ = (([(⟨#[102, 117, 110]⟩ : ByteArray), (⟨#[108, 101, 116]⟩ : ByteArray), (⟨#[105, 110]⟩ : ByteArray), (⟨#[105, 102]⟩ : ByteArray), (⟨#[116, 104, 101, 110]⟩ : ByteArray), (⟨#[101, 108, 115, 101]⟩ : ByteArray), (⟨#[119, 104, 105, 108, 101]⟩ : ByteArray), (⟨#[100, 111]⟩ : ByteArray), (⟨#[114, 97, 105, 115, 101]⟩ : ByteArray), (⟨#[116, 114, 121]⟩ : ByteArray), (⟨#[119, 105, 116, 104]⟩ : ByteArray), (⟨#[105, 110, 112, 117, 116]⟩ : ByteArray), (⟨#[99, 101, 108, 108]⟩ : ByteArray), (⟨#[100, 101, 102]⟩ : ByteArray)] : List ByteArray)) := ⟨_, rfl⟩
 replace H : ((chancelref02_Has.f k y242 a0).bind fun t245 => (some t245)) = some r := by first | (rw [hy242]; with_reducible exact H) | (have H2_ := (Option.bind_some _ _).symm.trans H; rw [hy242]; with_reducible exact H2_) | (have H2_ := (Option.bind_some _ _).symm.trans H; with_reducible exact H2_) | with_reducible exact H | (rw [hy242]; exact H) | exact H
 have Ny242 := Aside0.mk hy242
 clear hy242
 replace H := Option.bind_eq_some_iff.mp H
 obtain ⟨t245, A20, H⟩ := H
 replace H : (some t245) = some r := H
 have A2 := Aside0.mk A20
 clear A20
 obtain rfl := Option.some.inj H
 go_enter Tryz.func140, Tryz.ntmps140
 go_wp2_with (first | ((with_reducible refine zqr (N := 3) rfl ?_); refine Kd.R_lit Kd.string _ 9 ?hg (N := 3) ?hd (xs := ([(⟨#[102, 117, 110]⟩ : ByteArray), (⟨#[108, 101, 116]⟩ : ByteArray), (⟨#[105, 110]⟩ : ByteArray), (⟨#[105, 102]⟩ : ByteArray), (⟨#[116, 104, 101, 110]⟩ : ByteArray), (⟨#[101, 108, 115, 101]⟩ : ByteArray), (⟨#[119, 104, 105, 108, 101]⟩ : ByteArray), (⟨#[100, 111]⟩ : ByteArray), (⟨#[114, 97, 105, 115, 101]⟩ : ByteArray), (⟨#[116, 114, 121]⟩ : ByteArray), (⟨#[119, 105, 116, 104]⟩ : ByteArray), (⟨#[105, 110, 112, 117, 116]⟩ : ByteArray), (⟨#[99, 101, 108, 108]⟩ : ByteArray), (⟨#[100, 101, 102]⟩ : ByteArray)] : List ByteArray)) (inner := [.string (⟨#[102, 117, 110]⟩ : ByteArray), .string (⟨#[108, 101, 116]⟩ : ByteArray), .string (⟨#[105, 110]⟩ : ByteArray), .string (⟨#[105, 102]⟩ : ByteArray), .string (⟨#[116, 104, 101, 110]⟩ : ByteArray), .string (⟨#[101, 108, 115, 101]⟩ : ByteArray), .string (⟨#[119, 104, 105, 108, 101]⟩ : ByteArray), .string (⟨#[100, 111]⟩ : ByteArray), .string (⟨#[114, 97, 105, 115, 101]⟩ : ByteArray), .string (⟨#[116, 114, 121]⟩ : ByteArray), .string (⟨#[119, 105, 116, 104]⟩ : ByteArray), .string (⟨#[105, 110, 112, 117, 116]⟩ : ByteArray), .string (⟨#[99, 101, 108, 108]⟩ : ByteArray), .string (⟨#[100, 101, 102]⟩ : ByteArray)]) (ok := fun _ => True) (okp := fun _ => True) ?hr ?hp (fun _ hk => hk) trivial (Below.refl _ _) (Nat.le_refl _) (by simp) ?_; (case hd => rfl); (case hg => rfl); (case hr => first | (go_simp; done) | (go_simp; rfl)); (case hp => exact (Reps.one (show Kd.M Kd.string _ _ _ (⟨#[102, 117, 110]⟩ : ByteArray) [.string (⟨#[102, 117, 110]⟩ : ByteArray)] from rfl) (Reps.one (show Kd.M Kd.string _ _ _ (⟨#[108, 101, 116]⟩ : ByteArray) [.string (⟨#[108, 101, 116]⟩ : ByteArray)] from rfl) (Reps.one (show Kd.M Kd.string _ _ _ (⟨#[105, 110]⟩ : ByteArray) [.string (⟨#[105, 110]⟩ : ByteArray)] from rfl) (Reps.one (show Kd.M Kd.string _ _ _ (⟨#[105, 102]⟩ : ByteArray) [.string (⟨#[105, 102]⟩ : ByteArray)] from rfl) (Reps.one (show Kd.M Kd.string _ _ _ (⟨#[116, 104, 101, 110]⟩ : ByteArray) [.string (⟨#[116, 104, 101, 110]⟩ : ByteArray)] from rfl) (Reps.one (show Kd.M Kd.string _ _ _ (⟨#[101, 108, 115, 101]⟩ : ByteArray) [.string (⟨#[101, 108, 115, 101]⟩ : ByteArray)] from rfl) (Reps.one (show Kd.M Kd.string _ _ _ (⟨#[119, 104, 105, 108, 101]⟩ : ByteArray) [.string (⟨#[119, 104, 105, 108, 101]⟩ : ByteArray)] from rfl) (Reps.one (show Kd.M Kd.string _ _ _ (⟨#[100, 111]⟩ : ByteArray) [.string (⟨#[100, 111]⟩ : ByteArray)] from rfl) (Reps.one (show Kd.M Kd.string _ _ _ (⟨#[114, 97, 105, 115, 101]⟩ : ByteArray) [.string (⟨#[114, 97, 105, 115, 101]⟩ : ByteArray)] from rfl) (Reps.one (show Kd.M Kd.string _ _ _ (⟨#[116, 114, 121]⟩ : ByteArray) [.string (⟨#[116, 114, 121]⟩ : ByteArray)] from rfl) (Reps.one (show Kd.M Kd.string _ _ _ (⟨#[119, 105, 116, 104]⟩ : ByteArray) [.string (⟨#[119, 105, 116, 104]⟩ : ByteArray)] from rfl) (Reps.one (show Kd.M Kd.string _ _ _ (⟨#[105, 110, 112, 117, 116]⟩ : ByteArray) [.string (⟨#[105, 110, 112, 117, 116]⟩ : ByteArray)] from rfl) (Reps.one (show Kd.M Kd.string _ _ _ (⟨#[99, 101, 108, 108]⟩ : ByteArray) [.string (⟨#[99, 101, 108, 108]⟩ : ByteArray)] from rfl) (Reps.one (show Kd.M Kd.string _ _ _ (⟨#[100, 101, 102]⟩ : ByteArray) [.string (⟨#[100, 101, 102]⟩ : ByteArray)] from rfl) (Reps.none _ _)))))))))))))))); intro v243 w3 ho4 hb hg_ hnew_; clear hg_ hnew_; (first | rw [← Ny242.out] at ho4 | (simp only [Int.reduceToNat] at ho4; rw [← Ny242.out] at ho4)); have n0_ := Aside0.mk (Kd.R_lower ho4 (zqj (by repeat (first | exact HB.out | apply zqb | apply zqa | apply zqc)))); have n1_ := Aside0.mk (zqk (by repeat (first | exact HB.out | apply zqb | apply zqa | apply zqc)) hb); clear HB; have HO244 := n0_; have HB := n1_; clear n0_ n1_; clear hb ho4; obtain ⟨Ao5, co5, eo5⟩ := Kd.R_slice HO244.out; subst eo5) | ((with_reducible refine zqo (f := 142) rfl ?_); refine zqD (some 5) rfl rfl Tryz.func142 (by kernel_rfl) rfl #[.slice Ao5 y242.length co5, .string a0] rfl (by (try simp only [List.map_toArray, List.map_cons, List.map_nil]); first | done | rfl | (simp only [List.length_drop, List.length_take]; rfl)) ?_; (with_reducible refine (chancelref02_Has.calls k _ _ y242 a0 t245 _ ?side1 ?side2 A2.out).mono ?_); (case side1 => repeat (first | exact (Kd.R_reads' HO244.out).2.2 | (with_reducible refine Kd.C_alloc ?_ _) | (with_reducible refine Kd.C_drewN ?_ _) | (with_reducible refine Kd.C_drew ?_))); (case side2 => exact (Kd.R_reads' HO244.out).2.1); rintro e w' ⟨rfl, ⟨nd, rfl⟩⟩; refine ⟨_, rfl, ?_⟩))
 go_ret
 exact ⟨by first | rfl | (simp [zqm, zql] <;> rfl) | (simp [*, zqm, zql] <;> rfl), by repeat (first | exact HB.out | apply zqb | apply zqa | apply zqc)⟩
end Go.Proofs.YtchekgnacodolaaGreatDoor.X
end
section
namespace Go.Proofs.YtchekgnacodolaaGreatDoor.X
open Go.RowKit Go.Proofs.YtchekgnacodolaaGreatDoorW.PrintWords Go.Proofs.YtchekgnacodolaaGreatDoorW.PrintLast Go.Proofs.YtchekgnacodolaaGreatDoorW.PrintMore
attribute [local go_sem] zqK zqL max_two min_two zqB zqC zqI zqJ
set_option linter.unusedVariables false
set_option linter.unusedSimpArgs false
def chancelref02_Digits.l0 : Nat → Int → ByteArray → Option (ByteArray)
 | 0, _, _ => none
 | k + 1, x0, x3 => if x0 > 9 then ((some (([(wrap64 (48 + (Int.tmod x0 10))) % 256] : List Int) : List Int)).bind fun y246 => (if (strOfNums y246).size + x3.size ≤ 9223372036854775807 then (chancelref02_Digits.l0 k (wrap64 (Int.tdiv x0 10)) ((strOfNums y246) ++ x3)) else (none))) else ((some (([(wrap64 (48 + x0)) % 256] : List Int) : List Int)).bind fun y249 => (if (strOfNums y249).size + x3.size ≤ 9223372036854775807 then (some ((strOfNums y249) ++ x3)) else (none)))
def chancelref02_Digits.f (k : Nat) (a0 : Int) : Option (ByteArray) := chancelref02_Digits.l0 k a0 (⟨#[]⟩ : ByteArray)
theorem chancelref02_Digits.mono_l : ∀ k, (∀ y0 y1, LeO (chancelref02_Digits.l0 k y0 y1) (chancelref02_Digits.l0 (k + 1) y0 y1))
 | 0 => fun _ _ r h => by simp [chancelref02_Digits.l0] at h
 | k + 1 => by
  have ih0 := chancelref02_Digits.mono_l k
  ·intro y0 y1
   unfold chancelref02_Digits.l0
   repeat' first
   | (with_reducible exact ih0 _ _)
   | (with_reducible exact LeO.refl _)
   | (with_reducible exact LeO.none _)
   | (with_reducible refine LeO.ite ?_ ?_)
   | (with_reducible refine LeO.bind ?_ (fun _ => ?_))
   | exact ih0 _ _
   | exact LeO.none _
   | refine LeO.ite ?_ ?_
   | refine LeO.bind ?_ (fun _ => ?_)
theorem chancelref02_Digits.mono : ∀ a0 k, LeO (chancelref02_Digits.f k a0) (chancelref02_Digits.f (k + 1) a0) := by
 intro a0 k
 have ih0 := chancelref02_Digits.mono_l k
 unfold chancelref02_Digits.f
 repeat' first
   | (with_reducible exact ih0 _ _)
   | (with_reducible exact LeO.refl _)
   | (with_reducible exact LeO.none _)
   | (with_reducible refine LeO.ite ?_ ?_)
   | (with_reducible refine LeO.bind ?_ (fun _ => ?_))
   | exact ih0 _ _
   | exact LeO.none _
   | refine LeO.ite ?_ ?_
   | refine LeO.bind ?_ (fun _ => ?_)
theorem chancelref02_Digits.calls (k : Nat) (a0 : Int) (r : ByteArray) (w : World) (h : chancelref02_Digits.f k a0 = some r) :
  Calls Tryz.prog 83 #[.int .i64 a0] w fun e w' => e = .returned (.string r) ∧ Below w.heap.size w w' := by
 have HB := Aside0.mk (Below.refl w.heap.size w)
 have H : (chancelref02_Digits.l0 k a0 (⟨#[]⟩ : ByteArray)) = some r := h
 clear h
 have H' := Aside0.mk H
 clear H
 go_enter Tryz.func83, Tryz.ntmps83
 go_wp2
 go_loopg [0, 3] k (fun kq v0 v3 w' => ∃ (x0_1 : Int) (x3_1 : ByteArray), v0 = .int .i64 x0_1 ∧ v3 = .string x3_1 ∧ Aside0 (chancelref02_Digits.l0 kq x0_1 x3_1 = some r) ∧ Aside0 (kq ≤ k) ∧ Aside0 (Below w.heap.size w w'))
 case atStart => exact ⟨(a0), ((⟨#[]⟩ : ByteArray)), (by first | rfl | (simp [*]; done)), (by first | rfl | (simp [*]; done)), H', ⟨Nat.le_refl _⟩, ⟨by repeat (first | exact HB.out | apply zqb | apply zqa | apply zqc)⟩⟩
 case round =>
  clear H'
  obtain ⟨x0_1, x3_1, rfl, rfl, HA, HK1, HB⟩ := hrel
  cases gk with
  | zero => exact absurd HA.out (by simp [chancelref02_Digits.l0])
  | succ k1 =>
   have H := HA.out
   clear HA
   simp only [chancelref02_Digits.l0] at H
   by_cases c2 : x0_1 > 9
   ·rw [if_pos c2] at H
    have c2b0 : decide (9 < x0_1) = true := decide_eq_true c2
    clear c2
    obtain ⟨y246, hy246⟩ : ∃ y_ : List Int, y_ = (([(wrap64 (48 + (Int.tmod x0_1 10))) % 256] : List Int)) := ⟨_, rfl⟩
    replace H : (if (strOfNums y246).size + x3_1.size ≤ 9223372036854775807 then (chancelref02_Digits.l0 k1 (wrap64 (Int.tdiv x0_1 10)) ((strOfNums y246) ++ x3_1)) else (none)) = some r := by first | (rw [hy246]; with_reducible exact H) | (have H2_ := (Option.bind_some _ _).symm.trans H; rw [hy246]; with_reducible exact H2_) | (have H2_ := (Option.bind_some _ _).symm.trans H; with_reducible exact H2_) | with_reducible exact H | (rw [hy246]; exact H) | exact H
    have Ny246 := Aside0.mk hy246
    clear hy246
    by_cases c3 : (strOfNums y246).size + x3_1.size ≤ 9223372036854775807
    ·rw [if_pos c3] at H
     have c3b0 := eq_true c3
     have c3b1 : decide ((strOfNums y246).size + x3_1.size ≤ 9223372036854775807) = true := decide_eq_true c3
     try have c3b2 : (9223372036854775807 < (strOfNums y246).size + x3_1.size) = False := eq_false (Nat.not_lt.2 c3)
     have H' := Aside0.mk H
     clear H
     go_wp2_with (first | ((with_reducible refine zqr (N := 10) rfl ?_); refine Kd.R_lit (Kd.int .u8) _ 5 ?hg (N := 10) ?hd (xs := ([(wrap64 (48 + (Int.tmod x0_1 10))) % 256] : List Int)) (inner := [.int .u8 ((wrap64 (48 + (Int.tmod x0_1 10))) % 256)]) (ok := fun _ => True) (okp := fun _ => True) ?hr ?hp (fun _ hk => hk) trivial (Below.refl _ _) (Nat.le_refl _) (by simp) ?_; (case hd => rfl); (case hg => rfl); (case hr => first | (go_simp; done) | (go_simp; rfl)); (case hp => exact (Reps.one (show Kd.M (Kd.int .u8) _ _ _ ((wrap64 (48 + (Int.tmod x0_1 10))) % 256) [.int .u8 ((wrap64 (48 + (Int.tmod x0_1 10))) % 256)] from rfl) (Reps.none _ _))); intro v247 w4 ho5 hb hg_ hnew_; clear hg_ hnew_; (first | rw [← Ny246.out] at ho5 | (simp only [Int.reduceToNat] at ho5; rw [← Ny246.out] at ho5)); have n0_ := Aside0.mk (Kd.R_lower ho5 (zqj (by repeat (first | exact HB.out | apply zqb | apply zqa | apply zqc)))); have n1_ := Aside0.mk (zqk (by repeat (first | exact HB.out | apply zqb | apply zqa | apply zqc)) hb); clear HB; have HO248 := n0_; have HB := n1_; clear n0_ n1_; clear hb ho5; have hcv6 := own_string (P := Tryz.prog) Tryz.underlying51 Tryz.underlying5 Tryz.underlying9 (Kd.own_of_R HO248.out)))
     go_roundg k1
     case measure => have := HK1.out; omega
     case rel => exact ⟨(wrap64 (Int.tdiv x0_1 10)), ((strOfNums y246) ++ x3_1), (by first | rfl | (simp [*]; done)), (by first | rfl | (simp [*]; done)), H', ⟨by have := HK1.out; omega⟩, ⟨by repeat (first | exact HB.out | apply zqb | apply zqa | apply zqc)⟩⟩
    ·rw [if_neg c3] at H
     exact absurd H (by simp)
   ·rw [if_neg c2] at H
    have c2b0 : decide (9 < x0_1) = false := decide_eq_false c2
    clear c2
    obtain ⟨y249, hy249⟩ : ∃ y_ : List Int, y_ = (([(wrap64 (48 + x0_1)) % 256] : List Int)) := ⟨_, rfl⟩
    replace H : (if (strOfNums y249).size + x3_1.size ≤ 9223372036854775807 then (some ((strOfNums y249) ++ x3_1)) else (none)) = some r := by first | (rw [hy249]; with_reducible exact H) | (have H2_ := (Option.bind_some _ _).symm.trans H; rw [hy249]; with_reducible exact H2_) | (have H2_ := (Option.bind_some _ _).symm.trans H; with_reducible exact H2_) | with_reducible exact H | (rw [hy249]; exact H) | exact H
    have Ny249 := Aside0.mk hy249
    clear hy249
    by_cases c7 : (strOfNums y249).size + x3_1.size ≤ 9223372036854775807
    ·rw [if_pos c7] at H
     have c7b0 := eq_true c7
     have c7b1 : decide ((strOfNums y249).size + x3_1.size ≤ 9223372036854775807) = true := decide_eq_true c7
     try have c7b2 : (9223372036854775807 < (strOfNums y249).size + x3_1.size) = False := eq_false (Nat.not_lt.2 c7)
     obtain rfl := Option.some.inj H
     go_wp2_with (first | ((with_reducible refine zqr (N := 19) rfl ?_); refine Kd.R_lit (Kd.int .u8) _ 5 ?hg (N := 19) ?hd (xs := ([(wrap64 (48 + x0_1)) % 256] : List Int)) (inner := [.int .u8 ((wrap64 (48 + x0_1)) % 256)]) (ok := fun _ => True) (okp := fun _ => True) ?hr ?hp (fun _ hk => hk) trivial (Below.refl _ _) (Nat.le_refl _) (by simp) ?_; (case hd => rfl); (case hg => rfl); (case hr => first | (go_simp; done) | (go_simp; rfl)); (case hp => exact (Reps.one (show Kd.M (Kd.int .u8) _ _ _ ((wrap64 (48 + x0_1)) % 256) [.int .u8 ((wrap64 (48 + x0_1)) % 256)] from rfl) (Reps.none _ _))); intro v250 w8 ho9 hb hg_ hnew_; clear hg_ hnew_; (first | rw [← Ny249.out] at ho9 | (simp only [Int.reduceToNat] at ho9; rw [← Ny249.out] at ho9)); have n0_ := Aside0.mk (Kd.R_lower ho9 (zqj (by repeat (first | exact HB.out | apply zqb | apply zqa | apply zqc)))); have n1_ := Aside0.mk (zqk (by repeat (first | exact HB.out | apply zqb | apply zqa | apply zqc)) hb); clear HB; have HO251 := n0_; have HB := n1_; clear n0_ n1_; clear hb ho9; have hcv10 := own_string (P := Tryz.prog) Tryz.underlying51 Tryz.underlying5 Tryz.underlying9 (Kd.own_of_R HO251.out)))
     go_ret
     exact ⟨by first | rfl | (simp [zqm, zql] <;> rfl) | (simp [*, zqm, zql] <;> rfl), by repeat (first | exact HB.out | apply zqb | apply zqa | apply zqc)⟩
    ·rw [if_neg c7] at H
     exact absurd H (by simp)
end Go.Proofs.YtchekgnacodolaaGreatDoor.X
end
section
namespace Go.Proofs.YtchekgnacodolaaGreatDoor.X
open Go.RowKit Go.Proofs.YtchekgnacodolaaGreatDoorW.PrintWords Go.Proofs.YtchekgnacodolaaGreatDoorW.PrintLast Go.Proofs.YtchekgnacodolaaGreatDoorW.PrintMore
attribute [local go_sem] zqK zqL max_two min_two zqB zqC zqI zqJ
set_option linter.unusedVariables false
set_option linter.unusedSimpArgs false
mutual
def chancelref02_Number.j0 : Nat → ByteArray → Bool → Option (Int × Bool)
 | 0, _, _ => none
 | k + 1, x0, x13 => if x13 = true then (some (0, false)) else (chancelref02_Number.l0 k x0 0 0)
def chancelref02_Number.l0 : Nat → ByteArray → Int → Int → Option (Int × Bool)
 | 0, _, _, _ => none
 | k + 1, x0, x4, x5 => if x5 < (x0.size : Int) then (if 0 ≤ x5 then (if (bt x0 x5) < 48 then (some (0, false)) else (if (bt x0 x5) > 57 then (some (0, false)) else (chancelref02_Number.l0 k x0 (wrap64 ((wrap64 (x4 * 10)) + (((bt x0 x5) - 48) % 256))) (wrap64 (x5 + 1))))) else (none)) else (if x4 ≥ 2147483648 then (some (0, false)) else ((chancelref02_Digits.f k x4).bind fun t252 => (if t252.toList = x0.toList then (some (x4, true)) else (some (0, false)))))
end
def chancelref02_Number.f (k : Nat) (a0 : ByteArray) : Option (Int × Bool) := if (a0.size : Int) < 1 then (chancelref02_Number.j0 k a0 true) else (chancelref02_Number.j0 k a0 (decide ((a0.size : Int) > 10)))
theorem chancelref02_Number.mono_l : ∀ k, (∀ y0 y1, LeO (chancelref02_Number.j0 k y0 y1) (chancelref02_Number.j0 (k + 1) y0 y1)) ∧ (∀ y0 y1 y2, LeO (chancelref02_Number.l0 k y0 y1 y2) (chancelref02_Number.l0 (k + 1) y0 y1 y2))
 | 0 => ⟨fun _ _ r h => by simp [chancelref02_Number.j0] at h, fun _ _ _ r h => by simp [chancelref02_Number.l0] at h⟩
 | k + 1 => by
  obtain ⟨ih0, ih1⟩ := chancelref02_Number.mono_l k
  refine ⟨?_, ?_⟩
  ·intro y0 y1
   unfold chancelref02_Number.j0
   repeat' first
   | (with_reducible exact ih0 _ _)
   | (with_reducible exact ih1 _ _ _)
   | (with_reducible exact chancelref02_Digits.mono _ _)
   | (with_reducible exact LeO.refl _)
   | (with_reducible exact LeO.none _)
   | (with_reducible refine LeO.ite ?_ ?_)
   | (with_reducible refine LeO.bind ?_ (fun _ => ?_))
   | exact ih0 _ _
   | exact ih1 _ _ _
   | exact chancelref02_Digits.mono _ _
   | exact LeO.none _
   | refine LeO.ite ?_ ?_
   | refine LeO.bind ?_ (fun _ => ?_)
  ·intro y0 y1 y2
   unfold chancelref02_Number.l0
   repeat' first
   | (with_reducible exact ih0 _ _)
   | (with_reducible exact ih1 _ _ _)
   | (with_reducible exact chancelref02_Digits.mono _ _)
   | (with_reducible exact LeO.refl _)
   | (with_reducible exact LeO.none _)
   | (with_reducible refine LeO.ite ?_ ?_)
   | (with_reducible refine LeO.bind ?_ (fun _ => ?_))
   | exact ih0 _ _
   | exact ih1 _ _ _
   | exact chancelref02_Digits.mono _ _
   | exact LeO.none _
   | refine LeO.ite ?_ ?_
   | refine LeO.bind ?_ (fun _ => ?_)
theorem chancelref02_Number.mono : ∀ a0 k, LeO (chancelref02_Number.f k a0) (chancelref02_Number.f (k + 1) a0) := by
 intro a0 k
 obtain ⟨ih0, ih1⟩ := chancelref02_Number.mono_l k
 unfold chancelref02_Number.f
 repeat' first
   | (with_reducible exact ih0 _ _)
   | (with_reducible exact ih1 _ _ _)
   | (with_reducible exact chancelref02_Digits.mono _ _)
   | (with_reducible exact LeO.refl _)
   | (with_reducible exact LeO.none _)
   | (with_reducible refine LeO.ite ?_ ?_)
   | (with_reducible refine LeO.bind ?_ (fun _ => ?_))
   | exact ih0 _ _
   | exact ih1 _ _ _
   | exact chancelref02_Digits.mono _ _
   | exact LeO.none _
   | refine LeO.ite ?_ ?_
   | refine LeO.bind ?_ (fun _ => ?_)
theorem chancelref02_Number.calls (k : Nat) (a0 : ByteArray) (r1 : Int) (r2 : Bool) (w : World) (h : chancelref02_Number.f k a0 = some (r1, r2)) :
  Calls Tryz.prog 141 #[.string a0] w fun e w' => e = .returned (.tuple #[.int .i64 r1, .bool r2]) ∧ Below w.heap.size w w' := by
 have HB := Aside0.mk (Below.refl w.heap.size w)
 have H : (if (a0.size : Int) < 1 then (chancelref02_Number.j0 k a0 true) else (chancelref02_Number.j0 k a0 (decide ((a0.size : Int) > 10)))) = some (r1, r2) := h
 clear h
 have HC2 := Aside0.mk H
 clear H
 go_enter Tryz.func141, Tryz.ntmps141
 go_upto_region 1 with (fail)
 go_cut [13] (fun v13 wc => ∃ (kq : Nat) (x13_1 : Bool), v13 = .bool x13_1 ∧ Aside0 (chancelref02_Number.j0 kq a0 x13_1 = some (r1, r2)) ∧ Aside0 (kq ≤ k) ∧ Aside0 (Below w.heap.size w wc))
 case first =>
  have H := HC2.out
  clear HC2
  by_cases c3 : (a0.size : Int) < 1
  ·rw [if_pos c3] at H
   have c3b0 : decide ((a0.size : Int) < 1) = true := decide_eq_true c3
   have c3b1 : decide (a0.size < 1) = true := decide_eq_true (by omega)
   clear c3
   (first | rw [c3b0] | (simp only [i64_w, i32_w]; rw [c3b0]) | skip)
   have H' := Aside0.mk H
   clear H
   go_wp2
   go_meet
   case rel => exact ⟨_, (true), (by first | rfl | (simp [*]; done)), H', ⟨by first | omega | exact Nat.le_refl _⟩, ⟨by repeat (first | exact HB.out | apply zqb | apply zqa | apply zqc)⟩⟩
  ·rw [if_neg c3] at H
   have c3b0 : decide ((a0.size : Int) < 1) = false := decide_eq_false c3
   have c3b1 : decide (a0.size < 1) = false := decide_eq_false (by omega)
   clear c3
   (first | rw [c3b0] | (simp only [i64_w, i32_w]; rw [c3b0]) | skip)
   have H' := Aside0.mk H
   clear H
   go_wp2
   go_meet
   case rel => exact ⟨_, (decide ((a0.size : Int) > 10)), (by first | rfl | (simp [*]; done)), H', ⟨by first | omega | exact Nat.le_refl _⟩, ⟨by repeat (first | exact HB.out | apply zqb | apply zqa | apply zqc)⟩⟩
 case rest =>
  clear HC2
  try clear c1
  try clear p2
  try clear c3
  try clear c3b0
  try clear c3b1
  obtain ⟨kq, x13_1, rfl, HA, HJ1, HB⟩ := hcut
  cases kq with
  | zero => exact absurd HA.out (by simp [chancelref02_Number.j0])
  | succ kj1 =>
   have H := HA.out
   clear HA
   simp only [chancelref02_Number.j0] at H
   by_cases c4 : x13_1 = true
   ·subst c4
    have H1 : (some (0, false)) = some (r1, r2) := by rw [if_pos rfl] at H; exact H
    clear H
    have H := H1
    clear H1
    simp only [Option.some.injEq, Prod.mk.injEq] at H
    obtain ⟨rfl, rfl⟩ := H
    go_wp2
    go_ret2
    exact ⟨by first | rfl | (simp [zqm, zql] <;> rfl) | (simp [*, zqm, zql] <;> rfl), by repeat (first | exact HB.out | apply zqb | apply zqa | apply zqc)⟩
   ·replace c4 := Bool.eq_false_iff.mpr c4
    subst c4
    have H1 : (chancelref02_Number.l0 kj1 a0 0 0) = some (r1, r2) := by rw [if_neg (show ¬ (false = true) by decide)] at H; exact H
    clear H
    have H := H1
    clear H1
    have H' := Aside0.mk H
    clear H
    go_wp2
    go_loopg [4, 5] kj1 (fun kq v4 v5 w' => ∃ (x4_2 : Int) (x5_2 : Int), v4 = .int .i64 x4_2 ∧ v5 = .int .i64 x5_2 ∧ Aside0 (chancelref02_Number.l0 kq a0 x4_2 x5_2 = some (r1, r2)) ∧ Aside0 (kq ≤ kj1) ∧ Aside0 (Below w.heap.size w w'))
    case atStart => exact ⟨(0), (0), (by first | rfl | (simp [*]; done)), (by first | rfl | (simp [*]; done)), H', ⟨Nat.le_refl _⟩, ⟨by repeat (first | exact HB.out | apply zqb | apply zqa | apply zqc)⟩⟩
    case round =>
     clear H'
     try clear c1
     try clear p2
     try clear c3
     try clear c3b0
     try clear c3b1
     try clear c4
     try clear p2
     obtain ⟨x4_2, x5_2, rfl, rfl, HA, HK2, HB⟩ := hrel
     cases gk with
     | zero => exact absurd HA.out (by simp [chancelref02_Number.l0])
     | succ k2 =>
      have H := HA.out
      clear HA
      simp only [chancelref02_Number.l0] at H
      by_cases c5 : x5_2 < (a0.size : Int)
      ·rw [if_pos c5] at H
       have c5b0 : decide (x5_2 < (a0.size : Int)) = true := decide_eq_true c5
       clear c5
       by_cases c6 : 0 ≤ x5_2
       ·rw [if_pos c6] at H
        have c6b0 : decide (0 ≤ x5_2) = true := decide_eq_true c6
        clear c6
        by_cases c8 : (bt a0 x5_2) < 48
        ·rw [if_pos c8] at H
         have c8b0 : decide ((bt a0 x5_2) < 48) = true := decide_eq_true c8
         clear c8
         simp only [Option.some.injEq, Prod.mk.injEq] at H
         obtain ⟨rfl, rfl⟩ := H
         have p7 : 0 ≤ (x5_2 : Int) := of_decide_eq_true (by assumption)
         have q7 : x5_2 < (a0.size : Int) := of_decide_eq_true (by assumption)
         have hx7 := zqs a0 x5_2
         replace p7 := eq_true p7
         replace q7 := eq_true q7
         go_wp2
         go_ret2
         exact ⟨by first | rfl | (simp [zqm, zql] <;> rfl) | (simp [*, zqm, zql] <;> rfl), by repeat (first | exact HB.out | apply zqb | apply zqa | apply zqc)⟩
        ·rw [if_neg c8] at H
         have c8b0 : decide ((bt a0 x5_2) < 48) = false := decide_eq_false c8
         clear c8
         by_cases c10 : (bt a0 x5_2) > 57
         ·rw [if_pos c10] at H
          have c10b0 : decide (57 < (bt a0 x5_2)) = true := decide_eq_true c10
          clear c10
          simp only [Option.some.injEq, Prod.mk.injEq] at H
          obtain ⟨rfl, rfl⟩ := H
          have p7 : 0 ≤ (x5_2 : Int) := of_decide_eq_true (by assumption)
          have q7 : x5_2 < (a0.size : Int) := of_decide_eq_true (by assumption)
          have hx7 := zqs a0 x5_2
          replace p7 := eq_true p7
          replace q7 := eq_true q7
          have p9 : 0 ≤ (x5_2 : Int) := of_decide_eq_true (by assumption)
          have q9 : x5_2 < (a0.size : Int) := of_decide_eq_true (by assumption)
          have hx9 := zqs a0 x5_2
          replace p9 := eq_true p9
          replace q9 := eq_true q9
          go_wp2
          go_ret2
          exact ⟨by first | rfl | (simp [zqm, zql] <;> rfl) | (simp [*, zqm, zql] <;> rfl), by repeat (first | exact HB.out | apply zqb | apply zqa | apply zqc)⟩
         ·rw [if_neg c10] at H
          have c10b0 : decide (57 < (bt a0 x5_2)) = false := decide_eq_false c10
          clear c10
          have H' := Aside0.mk H
          clear H
          have p7 : 0 ≤ (x5_2 : Int) := of_decide_eq_true (by assumption)
          have q7 : x5_2 < (a0.size : Int) := of_decide_eq_true (by assumption)
          have hx7 := zqs a0 x5_2
          replace p7 := eq_true p7
          replace q7 := eq_true q7
          have p9 : 0 ≤ (x5_2 : Int) := of_decide_eq_true (by assumption)
          have q9 : x5_2 < (a0.size : Int) := of_decide_eq_true (by assumption)
          have hx9 := zqs a0 x5_2
          replace p9 := eq_true p9
          replace q9 := eq_true q9
          have p11 : 0 ≤ (x5_2 : Int) := of_decide_eq_true (by assumption)
          have q11 : x5_2 < (a0.size : Int) := of_decide_eq_true (by assumption)
          have hx11 := zqs a0 x5_2
          replace p11 := eq_true p11
          replace q11 := eq_true q11
          go_wp2
          go_roundg k2
          case measure => have := HJ1.out; have := HK2.out; omega
          case rel => exact ⟨(wrap64 ((wrap64 (x4_2 * 10)) + (((bt a0 x5_2) - 48) % 256))), (wrap64 (x5_2 + 1)), (by first | rfl | (simp [*]; done)), (by first | rfl | (simp [*]; done)), H', ⟨by have := HJ1.out; have := HK2.out; omega⟩, ⟨by repeat (first | exact HB.out | apply zqb | apply zqa | apply zqc)⟩⟩
       ·rw [if_neg c6] at H
        exact absurd H (by simp)
      ·rw [if_neg c5] at H
       have c5b0 : decide (x5_2 < (a0.size : Int)) = false := decide_eq_false c5
       clear c5
       by_cases c12 : x4_2 ≥ 2147483648
       ·rw [if_pos c12] at H
        have c12b0 : decide (2147483648 ≤ x4_2) = true := decide_eq_true c12
        clear c12
        simp only [Option.some.injEq, Prod.mk.injEq] at H
        obtain ⟨rfl, rfl⟩ := H
        go_wp2
        go_ret2
        exact ⟨by first | rfl | (simp [zqm, zql] <;> rfl) | (simp [*, zqm, zql] <;> rfl), by repeat (first | exact HB.out | apply zqb | apply zqa | apply zqc)⟩
       ·rw [if_neg c12] at H
        have c12b0 : decide (2147483648 ≤ x4_2) = false := decide_eq_false c12
        clear c12
        replace H := Option.bind_eq_some_iff.mp H
        obtain ⟨t252, A130, H⟩ := H
        replace H : (if t252.toList = a0.toList then (some (x4_2, true)) else (some (0, false))) = some (r1, r2) := H
        have A13 := Aside0.mk A130
        clear A130
        by_cases c14 : t252.toList = a0.toList
        ·rw [if_pos c14] at H
         have c14b0 : (t252.toList == a0.toList) = true := beq_iff_eq.mpr c14
         have c14b1 : (t252.toList != a0.toList) = false := bne_eq_false_iff_eq.mpr c14
         clear c14
         simp only [Option.some.injEq, Prod.mk.injEq] at H
         obtain ⟨rfl, rfl⟩ := H
         go_wp2_with (first | (go_at_call 83; (with_reducible refine (chancelref02_Digits.calls k2 x4_2 t252 _ A13.out).mono ?_); rintro e w15 ⟨rfl, hb⟩; have n0_ := Aside0.mk (zqk (by repeat (first | exact HB.out | apply zqb | apply zqa | apply zqc)) hb); clear HB; have HB := n0_; clear n0_; (try clear hb); (try clear hb2); (try clear hk); (try clear hi)))
         go_ret2
         exact ⟨by first | rfl | (simp [zqm, zql] <;> rfl) | (simp [*, zqm, zql] <;> rfl), by repeat (first | exact HB.out | apply zqb | apply zqa | apply zqc)⟩
        ·rw [if_neg c14] at H
         have c14b0 : (t252.toList == a0.toList) = false := beq_eq_false_iff_ne.mpr c14
         have c14b1 : (t252.toList != a0.toList) = true := bne_iff_ne.mpr c14
         simp only [Option.some.injEq, Prod.mk.injEq] at H
         obtain ⟨rfl, rfl⟩ := H
         go_wp2_with (first | (go_at_call 83; (with_reducible refine (chancelref02_Digits.calls k2 x4_2 t252 _ A13.out).mono ?_); rintro e w16 ⟨rfl, hb⟩; have n0_ := Aside0.mk (zqk (by repeat (first | exact HB.out | apply zqb | apply zqa | apply zqc)) hb); clear HB; have HB := n0_; clear n0_; (try clear hb); (try clear hb2); (try clear hk); (try clear hi)))
         go_ret2
         exact ⟨by first | rfl | (simp [zqm, zql] <;> rfl) | (simp [*, zqm, zql] <;> rfl), by repeat (first | exact HB.out | apply zqb | apply zqa | apply zqc)⟩
end Go.Proofs.YtchekgnacodolaaGreatDoor.X
end

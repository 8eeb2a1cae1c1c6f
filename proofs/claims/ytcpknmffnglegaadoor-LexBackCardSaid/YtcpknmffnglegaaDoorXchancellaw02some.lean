-- Written by our own program (wip/tools/xprint.py) round the kit's print.
import Derived.Test.YtcpknmffnglegaaDoorX0
namespace Go.Proofs.YtcpknmffnglegaaDoor.X
open Go.RowKit Go.Proofs.YtcpknmffnglegaaDoorW.PrintWords Go.Proofs.YtcpknmffnglegaaDoorW.PrintLast Go.Proofs.YtcpknmffnglegaaDoorW.PrintMore
attribute [local go_sem] max2_int min2_int max_two min_two max_three min_three max_four min_four   -- for this text's walks alone
set_option linter.unusedVariables false
set_option linter.unusedSimpArgs false

/-! ### chancellaw02_some: function 20 -/
def chancellaw02_some.l0 : Nat → List Int → List (S41) → List (S41) → Int → Option ((List (S41)))
  | 0, _, _, _, _ => none
  | k + 1, x0, x3, x4, x5 => if x5 < (x0.length : Int) then (if 0 ≤ x5 then (if 0 ≤ (Int.tmod (rd x0 x5) 14) then (if (Int.tmod (rd x0 x5) 14) < (x3.length : Int) then (if x4.length < 4398046511104 then (chancellaw02_some.l0 k x0 x3 (x4 ++ [(⟨(rd_T41 x3 (Int.tmod (rd x0 x5) 14)).f0, (rd_T41 x3 (Int.tmod (rd x0 x5) 14)).f1, (rd_T41 x3 (Int.tmod (rd x0 x5) 14)).f2⟩ : S41)]) (wrap64 (x5 + 1))) else (none)) else (none)) else (none)) else (none)) else (some x4)
def chancellaw02_some.f (k : Nat) (l0 : List Int) : Option ((List (S41))) := chancellaw02_some.l0 k l0 (([(⟨1, (⟨#[120]⟩ : ByteArray), 0⟩ : S41), (⟨1, (⟨#[76, 111, 49]⟩ : ByteArray), 0⟩ : S41), (⟨2, (⟨#[48]⟩ : ByteArray), 0⟩ : S41), (⟨2, (⟨#[50, 49, 52, 55, 52, 56, 51, 54, 52, 55]⟩ : ByteArray), 2147483647⟩ : S41), (⟨2, (⟨#[49, 55]⟩ : ByteArray), 17⟩ : S41), (⟨3, (⟨#[102, 117, 110]⟩ : ByteArray), 0⟩ : S41), (⟨3, (⟨#[119, 104, 105, 108, 101]⟩ : ByteArray), 0⟩ : S41), (⟨4, (⟨#[61]⟩ : ByteArray), 0⟩ : S41), (⟨4, (⟨#[61, 62]⟩ : ByteArray), 0⟩ : S41), (⟨4, (⟨#[58]⟩ : ByteArray), 0⟩ : S41), (⟨4, (⟨#[58, 61]⟩ : ByteArray), 0⟩ : S41), (⟨4, (⟨#[40]⟩ : ByteArray), 0⟩ : S41), (⟨4, (⟨#[46]⟩ : ByteArray), 0⟩ : S41), (⟨4, (⟨#[60]⟩ : ByteArray), 0⟩ : S41)] : List (S41))) ([] : List (S41)) 0
theorem chancellaw02_some.mono_l : ∀ k, (∀ y0 y1 y2 y3, LeO (chancellaw02_some.l0 k y0 y1 y2 y3) (chancellaw02_some.l0 (k + 1) y0 y1 y2 y3))
  | 0 => fun _ _ _ _ r h => by simp [chancellaw02_some.l0] at h
  | k + 1 => by
    have ih0 := chancellaw02_some.mono_l k
    · intro y0 y1 y2 y3
      unfold chancellaw02_some.l0
      repeat' first
      | (with_reducible exact ih0 _ _ _ _)
      | (with_reducible exact LeO.refl _)
      | (with_reducible exact LeO.none _)
      | (with_reducible refine LeO.ite ?_ ?_)
      | (with_reducible refine LeO.bind ?_ (fun _ => ?_))
      | exact ih0 _ _ _ _
      | exact LeO.none _
      | refine LeO.ite ?_ ?_
      | refine LeO.bind ?_ (fun _ => ?_)
theorem chancellaw02_some.mono : ∀ a0 k, LeO (chancellaw02_some.f k a0) (chancellaw02_some.f (k + 1) a0) := by
  intro a0 k
  have ih0 := chancellaw02_some.mono_l k
  unfold chancellaw02_some.f
  repeat' first
      | (with_reducible exact ih0 _ _ _ _)
      | (with_reducible exact LeO.refl _)
      | (with_reducible exact LeO.none _)
      | (with_reducible refine LeO.ite ?_ ?_)
      | (with_reducible refine LeO.bind ?_ (fun _ => ?_))
      | exact ih0 _ _ _ _
      | exact LeO.none _
      | refine LeO.ite ?_ ?_
      | refine LeO.bind ?_ (fun _ => ?_)
set_option maxHeartbeats 8000000 in
set_option maxRecDepth 100000 in
theorem chancellaw02_some.calls (k : Nat) (A0 : Option Addr) (c0 : Nat) (l0 : List Int) (r : List (S41)) (w : World) (hr0 : Kd.C (Kd.int .u8) w A0 l0.length l0) (hc0 : l0.length ≤ c0) (h : chancellaw02_some.f k l0 = some r) :
    Calls Tryd.prog 20 #[.slice A0 l0.length c0] w fun e w' => ∃ v0_ : Value, e = .returned (v0_) ∧ Kd.R k41 41 w' w.heap.size (fun _ => True) v0_ r ∧ Below w.heap.size w w' := by
  have hu41 := Tryd.underlying41
  have HR0 := Aside0.mk hr0
  have HC0 := Aside0.mk hc0
  clear hr0 hc0
  have HB := Aside0.mk (Below.refl w.heap.size w)
  have H : (chancellaw02_some.l0 k l0 (([(⟨1, (⟨#[120]⟩ : ByteArray), 0⟩ : S41), (⟨1, (⟨#[76, 111, 49]⟩ : ByteArray), 0⟩ : S41), (⟨2, (⟨#[48]⟩ : ByteArray), 0⟩ : S41), (⟨2, (⟨#[50, 49, 52, 55, 52, 56, 51, 54, 52, 55]⟩ : ByteArray), 2147483647⟩ : S41), (⟨2, (⟨#[49, 55]⟩ : ByteArray), 17⟩ : S41), (⟨3, (⟨#[102, 117, 110]⟩ : ByteArray), 0⟩ : S41), (⟨3, (⟨#[119, 104, 105, 108, 101]⟩ : ByteArray), 0⟩ : S41), (⟨4, (⟨#[61]⟩ : ByteArray), 0⟩ : S41), (⟨4, (⟨#[61, 62]⟩ : ByteArray), 0⟩ : S41), (⟨4, (⟨#[58]⟩ : ByteArray), 0⟩ : S41), (⟨4, (⟨#[58, 61]⟩ : ByteArray), 0⟩ : S41), (⟨4, (⟨#[40]⟩ : ByteArray), 0⟩ : S41), (⟨4, (⟨#[46]⟩ : ByteArray), 0⟩ : S41), (⟨4, (⟨#[60]⟩ : ByteArray), 0⟩ : S41)] : List (S41))) ([] : List (S41)) 0) = some r := h
  clear h
  obtain ⟨y304, hy304⟩ : ∃ y_ : List (S41), y_ = (([(⟨1, (⟨#[120]⟩ : ByteArray), 0⟩ : S41), (⟨1, (⟨#[76, 111, 49]⟩ : ByteArray), 0⟩ : S41), (⟨2, (⟨#[48]⟩ : ByteArray), 0⟩ : S41), (⟨2, (⟨#[50, 49, 52, 55, 52, 56, 51, 54, 52, 55]⟩ : ByteArray), 2147483647⟩ : S41), (⟨2, (⟨#[49, 55]⟩ : ByteArray), 17⟩ : S41), (⟨3, (⟨#[102, 117, 110]⟩ : ByteArray), 0⟩ : S41), (⟨3, (⟨#[119, 104, 105, 108, 101]⟩ : ByteArray), 0⟩ : S41), (⟨4, (⟨#[61]⟩ : ByteArray), 0⟩ : S41), (⟨4, (⟨#[61, 62]⟩ : ByteArray), 0⟩ : S41), (⟨4, (⟨#[58]⟩ : ByteArray), 0⟩ : S41), (⟨4, (⟨#[58, 61]⟩ : ByteArray), 0⟩ : S41), (⟨4, (⟨#[40]⟩ : ByteArray), 0⟩ : S41), (⟨4, (⟨#[46]⟩ : ByteArray), 0⟩ : S41), (⟨4, (⟨#[60]⟩ : ByteArray), 0⟩ : S41)] : List (S41))) := ⟨_, rfl⟩
  replace H : (chancellaw02_some.l0 k l0 y304 ([] : List (S41)) 0) = some r := by first | (rw [hy304]; with_reducible exact H) | (have H2_ := (Option.bind_some _ _).symm.trans H; rw [hy304]; with_reducible exact H2_) | (have H2_ := (Option.bind_some _ _).symm.trans H; with_reducible exact H2_) | with_reducible exact H | (rw [hy304]; exact H) | exact H
  have Ny304 := Aside0.mk hy304
  clear hy304
  have H' := Aside0.mk H
  clear H
  go_enter Tryd.func20, Tryd.ntmps20
  go_wp2_with (first | ((with_reducible refine gate_dst (N := 20) rfl ?_); refine Kd.R_lit k41 _ 41 ?hg (N := 20) ?hd (xs := ([(⟨1, (⟨#[120]⟩ : ByteArray), 0⟩ : S41), (⟨1, (⟨#[76, 111, 49]⟩ : ByteArray), 0⟩ : S41), (⟨2, (⟨#[48]⟩ : ByteArray), 0⟩ : S41), (⟨2, (⟨#[50, 49, 52, 55, 52, 56, 51, 54, 52, 55]⟩ : ByteArray), 2147483647⟩ : S41), (⟨2, (⟨#[49, 55]⟩ : ByteArray), 17⟩ : S41), (⟨3, (⟨#[102, 117, 110]⟩ : ByteArray), 0⟩ : S41), (⟨3, (⟨#[119, 104, 105, 108, 101]⟩ : ByteArray), 0⟩ : S41), (⟨4, (⟨#[61]⟩ : ByteArray), 0⟩ : S41), (⟨4, (⟨#[61, 62]⟩ : ByteArray), 0⟩ : S41), (⟨4, (⟨#[58]⟩ : ByteArray), 0⟩ : S41), (⟨4, (⟨#[58, 61]⟩ : ByteArray), 0⟩ : S41), (⟨4, (⟨#[40]⟩ : ByteArray), 0⟩ : S41), (⟨4, (⟨#[46]⟩ : ByteArray), 0⟩ : S41), (⟨4, (⟨#[60]⟩ : ByteArray), 0⟩ : S41)] : List (S41))) (inner := [.int .i64 1, .string (⟨#[120]⟩ : ByteArray), .int .i64 0, .int .i64 1, .string (⟨#[76, 111, 49]⟩ : ByteArray), .int .i64 0, .int .i64 2, .string (⟨#[48]⟩ : ByteArray), .int .i64 0, .int .i64 2, .string (⟨#[50, 49, 52, 55, 52, 56, 51, 54, 52, 55]⟩ : ByteArray), .int .i64 2147483647, .int .i64 2, .string (⟨#[49, 55]⟩ : ByteArray), .int .i64 17, .int .i64 3, .string (⟨#[102, 117, 110]⟩ : ByteArray), .int .i64 0, .int .i64 3, .string (⟨#[119, 104, 105, 108, 101]⟩ : ByteArray), .int .i64 0, .int .i64 4, .string (⟨#[61]⟩ : ByteArray), .int .i64 0, .int .i64 4, .string (⟨#[61, 62]⟩ : ByteArray), .int .i64 0, .int .i64 4, .string (⟨#[58]⟩ : ByteArray), .int .i64 0, .int .i64 4, .string (⟨#[58, 61]⟩ : ByteArray), .int .i64 0, .int .i64 4, .string (⟨#[40]⟩ : ByteArray), .int .i64 0, .int .i64 4, .string (⟨#[46]⟩ : ByteArray), .int .i64 0, .int .i64 4, .string (⟨#[60]⟩ : ByteArray), .int .i64 0]) (ok := fun _ => True) (okp := fun _ => True) ?hr ?hp (fun _ hk => hk) trivial (Below.refl _ _) (Nat.le_refl _) (by simp) ?_; (case hd => rfl); (case hg => rfl); (case hr => first | (go_simp; done) | (go_simp; rfl)); (case hp => exact (Reps.c3 (show Kd.M k41 _ _ _ (⟨1, (⟨#[120]⟩ : ByteArray), 0⟩ : S41) [.int .i64 1, .string (⟨#[120]⟩ : ByteArray), .int .i64 0] from (k41_mkM _ _ _ (⟨1, (⟨#[120]⟩ : ByteArray), 0⟩ : S41) )) (Reps.c3 (show Kd.M k41 _ _ _ (⟨1, (⟨#[76, 111, 49]⟩ : ByteArray), 0⟩ : S41) [.int .i64 1, .string (⟨#[76, 111, 49]⟩ : ByteArray), .int .i64 0] from (k41_mkM _ _ _ (⟨1, (⟨#[76, 111, 49]⟩ : ByteArray), 0⟩ : S41) )) (Reps.c3 (show Kd.M k41 _ _ _ (⟨2, (⟨#[48]⟩ : ByteArray), 0⟩ : S41) [.int .i64 2, .string (⟨#[48]⟩ : ByteArray), .int .i64 0] from (k41_mkM _ _ _ (⟨2, (⟨#[48]⟩ : ByteArray), 0⟩ : S41) )) (Reps.c3 (show Kd.M k41 _ _ _ (⟨2, (⟨#[50, 49, 52, 55, 52, 56, 51, 54, 52, 55]⟩ : ByteArray), 2147483647⟩ : S41) [.int .i64 2, .string (⟨#[50, 49, 52, 55, 52, 56, 51, 54, 52, 55]⟩ : ByteArray), .int .i64 2147483647] from (k41_mkM _ _ _ (⟨2, (⟨#[50, 49, 52, 55, 52, 56, 51, 54, 52, 55]⟩ : ByteArray), 2147483647⟩ : S41) )) (Reps.c3 (show Kd.M k41 _ _ _ (⟨2, (⟨#[49, 55]⟩ : ByteArray), 17⟩ : S41) [.int .i64 2, .string (⟨#[49, 55]⟩ : ByteArray), .int .i64 17] from (k41_mkM _ _ _ (⟨2, (⟨#[49, 55]⟩ : ByteArray), 17⟩ : S41) )) (Reps.c3 (show Kd.M k41 _ _ _ (⟨3, (⟨#[102, 117, 110]⟩ : ByteArray), 0⟩ : S41) [.int .i64 3, .string (⟨#[102, 117, 110]⟩ : ByteArray), .int .i64 0] from (k41_mkM _ _ _ (⟨3, (⟨#[102, 117, 110]⟩ : ByteArray), 0⟩ : S41) )) (Reps.c3 (show Kd.M k41 _ _ _ (⟨3, (⟨#[119, 104, 105, 108, 101]⟩ : ByteArray), 0⟩ : S41) [.int .i64 3, .string (⟨#[119, 104, 105, 108, 101]⟩ : ByteArray), .int .i64 0] from (k41_mkM _ _ _ (⟨3, (⟨#[119, 104, 105, 108, 101]⟩ : ByteArray), 0⟩ : S41) )) (Reps.c3 (show Kd.M k41 _ _ _ (⟨4, (⟨#[61]⟩ : ByteArray), 0⟩ : S41) [.int .i64 4, .string (⟨#[61]⟩ : ByteArray), .int .i64 0] from (k41_mkM _ _ _ (⟨4, (⟨#[61]⟩ : ByteArray), 0⟩ : S41) )) (Reps.c3 (show Kd.M k41 _ _ _ (⟨4, (⟨#[61, 62]⟩ : ByteArray), 0⟩ : S41) [.int .i64 4, .string (⟨#[61, 62]⟩ : ByteArray), .int .i64 0] from (k41_mkM _ _ _ (⟨4, (⟨#[61, 62]⟩ : ByteArray), 0⟩ : S41) )) (Reps.c3 (show Kd.M k41 _ _ _ (⟨4, (⟨#[58]⟩ : ByteArray), 0⟩ : S41) [.int .i64 4, .string (⟨#[58]⟩ : ByteArray), .int .i64 0] from (k41_mkM _ _ _ (⟨4, (⟨#[58]⟩ : ByteArray), 0⟩ : S41) )) (Reps.c3 (show Kd.M k41 _ _ _ (⟨4, (⟨#[58, 61]⟩ : ByteArray), 0⟩ : S41) [.int .i64 4, .string (⟨#[58, 61]⟩ : ByteArray), .int .i64 0] from (k41_mkM _ _ _ (⟨4, (⟨#[58, 61]⟩ : ByteArray), 0⟩ : S41) )) (Reps.c3 (show Kd.M k41 _ _ _ (⟨4, (⟨#[40]⟩ : ByteArray), 0⟩ : S41) [.int .i64 4, .string (⟨#[40]⟩ : ByteArray), .int .i64 0] from (k41_mkM _ _ _ (⟨4, (⟨#[40]⟩ : ByteArray), 0⟩ : S41) )) (Reps.c3 (show Kd.M k41 _ _ _ (⟨4, (⟨#[46]⟩ : ByteArray), 0⟩ : S41) [.int .i64 4, .string (⟨#[46]⟩ : ByteArray), .int .i64 0] from (k41_mkM _ _ _ (⟨4, (⟨#[46]⟩ : ByteArray), 0⟩ : S41) )) (Reps.c3 (show Kd.M k41 _ _ _ (⟨4, (⟨#[60]⟩ : ByteArray), 0⟩ : S41) [.int .i64 4, .string (⟨#[60]⟩ : ByteArray), .int .i64 0] from (k41_mkM _ _ _ (⟨4, (⟨#[60]⟩ : ByteArray), 0⟩ : S41) )) (Reps.none _ _)))))))))))))))); intro v305 w2 ho3 hb hg_ hnew_; clear hg_ hnew_; (first | rw [← Ny304.out] at ho3 | (simp only [Int.reduceToNat] at ho3; rw [← Ny304.out] at ho3)); have n0_ := Aside0.mk (Kd.R_lower ho3 (below_size (by repeat (first | (with_reducible first | exact HB.out | apply below_alloc | apply pw_below_drewN | apply below_drew1) | exact HB.out)))); have n1_ := Aside0.mk (below_step (by repeat (first | (with_reducible first | exact HB.out | apply below_alloc | apply pw_below_drewN | apply below_drew1) | exact HB.out)) hb); clear HB; have HO306 := n0_; have HB := n1_; clear n0_ n1_; clear hb ho3))
  go_loopg [4, 5] k (fun kq v4 v5 w' => ∃ (x4_1 : List (S41)) (x5_1 : Int), v5 = .int .i64 x5_1 ∧ Aside0 (chancellaw02_some.l0 kq l0 y304 x4_1 x5_1 = some r) ∧ Aside0 (kq ≤ k) ∧ Aside0 (Kd.R k41 41 w' w.heap.size (fun k_ => some k_ ≠ (v4 : Value).ownBlock) v305 y304) ∧ Aside0 (Kd.R k41 41 w' w.heap.size (fun k_ => some k_ ≠ (v305 : Value).ownBlock) v4 x4_1) ∧ Aside0 (Below w.heap.size w w'))
  case atStart => exact ⟨(([] : List (S41))), (0), (by first | rfl | (simp; done) | (simp [*]; done)), H', ⟨Nat.le_refl _⟩, ⟨by (with_reducible repeat (first | apply Kd.R_alloc | apply Kd.R_drewN | apply Kd.R_drew)); exact Kd.R_mono HO306.out (fun _ hk => (by simp [Value.ownBlock]))⟩, ⟨by first | exact Kd.R_nil _ _ _ _ _ | exact Kd.N_nil _ _ _ _ _ | exact Kd.V_nil _ _ _ _ _ | exact Kd.Q_nil _ _ _ _ _ | exact Kd.S_nil _ _ _ _ _⟩, ⟨by repeat (first | (with_reducible first | exact HB.out | apply below_alloc | apply pw_below_drewN | apply below_drew1) | exact HB.out)⟩⟩
  case round =>
    clear H'
    try clear c2
    try clear p2
    try clear c3
    obtain ⟨x4_1, x5_1, rfl, HA, HK1, HO_3, HO_4, HB⟩ := hrel
    cases gk with
    | zero => exact absurd HA.out (by simp [chancellaw02_some.l0])
    | succ k1 =>
      have H := HA.out
      clear HA
      simp only [chancellaw02_some.l0] at H
      by_cases c4 : x5_1 < (l0.length : Int)
      · rw [if_pos c4] at H
        have c4b0 : decide (x5_1 < (l0.length : Int)) = true := decide_eq_true c4
        clear c4
        by_cases c5 : 0 ≤ x5_1
        · rw [if_pos c5] at H
          have c5b0 : decide (0 ≤ x5_1) = true := decide_eq_true c5
          clear c5
          obtain ⟨ji6, hji6⟩ : ∃ j_ : Int, (Int.tmod (rd l0 x5_1) 14) = j_ := ⟨_, rfl⟩
          replace H : (if 0 ≤ (ji6) then (if (ji6) < (y304.length : Int) then (if x4_1.length < 4398046511104 then (chancellaw02_some.l0 k1 l0 y304 (x4_1 ++ [(⟨(rd_T41 y304 (ji6)).f0, (rd_T41 y304 (ji6)).f1, (rd_T41 y304 (ji6)).f2⟩ : S41)]) (wrap64 (x5_1 + 1))) else (none)) else (none)) else (none)) = some r := by first | (rw [hji6] at H; exact H) | (simp only [hji6] at H ⊢; exact H)
          by_cases c7 : 0 ≤ (ji6)
          · rw [if_pos c7] at H
            have c7b0 : decide (0 ≤ (ji6)) = true := decide_eq_true c7
            clear c7
            by_cases c8 : (ji6) < (y304.length : Int)
            · rw [if_pos c8] at H
              have c8b0 : decide ((ji6) < (y304.length : Int)) = true := decide_eq_true c8
              clear c8
              by_cases c9 : x4_1.length < 4398046511104
              · rw [if_pos c9] at H
                have LMc9 := Aside0.mk c9
                clear c9
                obtain ⟨y309, hy309⟩ : ∃ y_ : List (S41), y_ = (x4_1 ++ [(⟨(rd_T41 y304 (ji6)).f0, (rd_T41 y304 (ji6)).f1, (rd_T41 y304 (ji6)).f2⟩ : S41)]) := ⟨_, rfl⟩
                replace H : (chancellaw02_some.l0 k1 l0 y304 y309 (wrap64 (x5_1 + 1))) = some r := by first | (rw [hy309]; with_reducible exact H) | (have H2_ := (Option.bind_some _ _).symm.trans H; rw [hy309]; with_reducible exact H2_) | (have H2_ := (Option.bind_some _ _).symm.trans H; with_reducible exact H2_) | with_reducible exact H | (rw [hy309]; exact H) | exact H
                have Ny309 := Aside0.mk hy309
                clear hy309
                have H' := Aside0.mk H
                clear H
                have p307 : 0 ≤ (x5_1 : Int) := of_decide_eq_true (by first | (with_reducible assumption) | assumption)
                have q307 : x5_1 < (l0.length : Int) := of_decide_eq_true (by first | (with_reducible assumption) | assumption)
                obtain ⟨ad307, e307, hx307_0⟩ := Kd.at_int HR0.out x5_1 p307 q307
                cases e307
                replace hx307_0 := (HB.out.cell (World.block_lt_of_cell? w _ hx307_0)).trans hx307_0
                replace p307 := eq_true p307
                replace q307 := eq_true q307
                obtain ⟨Ao10, co10, eo10⟩ := Kd.R_slice HO_3.out
                subst eo10
                have p308 : 0 ≤ ((ji6) : Int) := of_decide_eq_true (by first | (with_reducible assumption) | assumption)
                have q308 : (ji6) < (y304.length : Int) := of_decide_eq_true (by first | (with_reducible assumption) | assumption)
                obtain ⟨ad308, e308, hx308_0, hx308_1, hx308_2⟩ := at_T41 (Kd.R_reads' HO_3.out).2.2 (ji6) p308 q308
                cases e308
                replace p308 := eq_true p308
                replace q308 := eq_true q308
                go_wp2_with (first | ((with_reducible refine gate_builtin (b := .append) (xs := #[.tmp 27, .tmp 36]) rfl ?_); at_builtin; refine Kd.R_append k41 (w0 := w) w.heap.size rfl (.tmp 27) (.tmp 36) 22 41 (.agg #[(.int .i64 0), (.string ⟨#[]⟩), (.int .i64 0)]) 32 rfl Tryd.underlying22 info41 rfl (by decide) (by omega) u4 x4_1 (⟨(rd_T41 y304 (ji6)).f0, (rd_T41 y304 (ji6)).f1, (rd_T41 y304 (ji6)).f2⟩ : S41) [.int .i64 ((rd_T41 y304 (ji6)).f0), .string ((rd_T41 y304 (ji6)).f1), .int .i64 ((rd_T41 y304 (ji6)).f2)] (fun k_ => some k_ ≠ (.slice (some ad308) y304.length co10 : Value).ownBlock) (fun _ => False) rfl rfl ?aP (fun _ hk => hk.elim) ?aF ?aO ?aB ?aS ?aL ?_; (case aP => exact k41_mkM _ _ _ (⟨(rd_T41 y304 (ji6)).f0, (rd_T41 y304 (ji6)).f1, (rd_T41 y304 (ji6)).f2⟩ : S41)); (case aB => exact (by repeat (first | (with_reducible first | exact HB.out | apply below_alloc | apply pw_below_drewN | apply below_drew1) | exact HB.out))); (case aF => exact (fun k_ hk => Kd.fresh' (Kd.R_lt (by (with_reducible repeat (first | apply Kd.R_alloc | apply Kd.R_drewN | apply Kd.R_drew)); exact HO_3.out)) k_ hk)); (case aO => exact (by (with_reducible repeat (first | apply Kd.R_alloc | apply Kd.R_drewN | apply Kd.R_drew)); exact HO_4.out)); (case aS => exact (below_size (by repeat (first | (with_reducible first | exact HB.out | apply below_alloc | apply pw_below_drewN | apply below_drew1) | exact HB.out)))); (case aL => have := LMc9.out; omega); intro v310 w11 ho hb hg hat; rw [← Ny309.out] at ho; have n0_ := Aside0.mk (Kd.R_after (ok := (fun _ => True)) (by (with_reducible repeat (first | apply Kd.R_alloc | apply Kd.R_drewN | apply Kd.R_drew)); exact Kd.R_mono HO_3.out (fun _ hk => ⟨trivial, hk⟩)) hg hat); have n1_ := Aside0.mk (hb); have n2_ := Aside0.mk (ho); clear HO_3; clear HB; clear HO_4; have HO_3 := n0_; have HB := n1_; have HO311 := n2_; clear n0_ n1_ n2_; clear ho hb hg hat))
                go_roundg k1
                case measure => have := HK1.out; omega
                case rel => exact ⟨(y309), (wrap64 (x5_1 + 1)), (by first | rfl | (simp; done) | (simp [*]; done)), H', ⟨by have := HK1.out; omega⟩, ⟨by (with_reducible repeat (first | apply Kd.R_alloc | apply Kd.R_drewN | apply Kd.R_drew)); exact Kd.R_mono HO_3.out (fun _ hk => hk.2)⟩, ⟨by (with_reducible repeat (first | apply Kd.R_alloc | apply Kd.R_drewN | apply Kd.R_drew)); exact HO311.out⟩, ⟨by repeat (first | (with_reducible first | exact HB.out | apply below_alloc | apply pw_below_drewN | apply below_drew1) | exact HB.out)⟩⟩
              · rw [if_neg c9] at H
                exact absurd H (by simp)
            · rw [if_neg c8] at H
              exact absurd H (by simp)
          · rw [if_neg c7] at H
            exact absurd H (by simp)
        · rw [if_neg c5] at H
          exact absurd H (by simp)
      · rw [if_neg c4] at H
        have c4b0 : decide (x5_1 < (l0.length : Int)) = false := decide_eq_false c4
        clear c4
        obtain rfl := Option.some.inj H
        go_wp2
        go_ret
        exact ⟨_, by first | rfl | (simp [errW_none, errW_some] <;> rfl) | (simp [*, errW_none, errW_some] <;> rfl), by (with_reducible repeat (first | apply Kd.R_alloc | apply Kd.R_drewN | apply Kd.R_drew)); exact Kd.R_mono HO_4.out (fun _ hk => trivial), by repeat (first | (with_reducible first | exact HB.out | apply below_alloc | apply pw_below_drewN | apply below_drew1) | exact HB.out)⟩

end Go.Proofs.YtcpknmffnglegaaDoor.X

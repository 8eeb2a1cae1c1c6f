-- Joined by our own program (wip/tools/prune.py) out of the seat's texts, less what this claim doesn't name.
import Derived.Test.YtchekgnacodolaaGreatDoorJ6
set_option maxHeartbeats 8000000
set_option maxRecDepth 100000
section
namespace Go.Proofs.YtchekgnacodolaaGreatDoor.X
open Go.RowKit Go.Proofs.YtchekgnacodolaaGreatDoorW.PrintWords Go.Proofs.YtchekgnacodolaaGreatDoorW.PrintLast Go.Proofs.YtchekgnacodolaaGreatDoorW.PrintMore
attribute [local go_sem] zqK zqL max_two min_two zqB zqC zqI zqJ
set_option linter.unusedVariables false
set_option linter.unusedSimpArgs false
mutual
def chancelref03_Depth.l0 : Nat → Int → Int → Int → ByteArray → Int → List (S32) → Option (Int)
 | 0, _, _, _, _, _, _ => none
 | k + 1, x3, x4, x312000, x312001, x312002, x312003 => if x4 < (x312003.length : Int) then (if 0 ≤ x4 then ((chancelref03_Depth.f k ((rd_T32 x312003 x4).f0) ((rd_T32 x312003 x4).f1) ((rd_T32 x312003 x4).f2) ((rd_T32 x312003 x4).f3)).bind fun t313 => (chancelref03_Depth.l0 k (mx x3 t313) (wrap64 (x4 + 1)) x312000 x312001 x312002 x312003)) else (none)) else (some (wrap64 (x3 + 1)))
def chancelref03_Depth.f : Nat → Int → ByteArray → Int → List (S32) → Option (Int)
 | 0, _, _, _, _ => none
 | k + 1, a0_0, a0_1, a0_2, l0_3 => chancelref03_Depth.l0 k 0 0 a0_0 a0_1 a0_2 l0_3
end
theorem chancelref03_Depth.mono_l : ∀ k, (∀ y0 y1 y2 y3, LeO (chancelref03_Depth.f k y0 y1 y2 y3) (chancelref03_Depth.f (k + 1) y0 y1 y2 y3)) ∧ (∀ y0 y1 y2 y3 y4 y5, LeO (chancelref03_Depth.l0 k y0 y1 y2 y3 y4 y5) (chancelref03_Depth.l0 (k + 1) y0 y1 y2 y3 y4 y5))
 | 0 => ⟨fun _ _ _ _ r h => by simp [chancelref03_Depth.f] at h, fun _ _ _ _ _ _ r h => by simp [chancelref03_Depth.l0] at h⟩
 | k + 1 => by
  obtain ⟨ih0, ih1⟩ := chancelref03_Depth.mono_l k
  refine ⟨?_, ?_⟩
  ·intro y0 y1 y2 y3
   unfold chancelref03_Depth.f
   repeat' first
   | (with_reducible exact ih0 _ _ _ _)
   | (with_reducible exact ih1 _ _ _ _ _ _)
   | (with_reducible exact LeO.refl _)
   | (with_reducible exact LeO.none _)
   | (with_reducible refine LeO.ite ?_ ?_)
   | (with_reducible refine LeO.bind ?_ (fun _ => ?_))
   | exact ih0 _ _ _ _
   | exact ih1 _ _ _ _ _ _
   | exact LeO.none _
   | refine LeO.ite ?_ ?_
   | refine LeO.bind ?_ (fun _ => ?_)
  ·intro y0 y1 y2 y3 y4 y5
   unfold chancelref03_Depth.l0
   repeat' first
   | (with_reducible exact ih0 _ _ _ _)
   | (with_reducible exact ih1 _ _ _ _ _ _)
   | (with_reducible exact LeO.refl _)
   | (with_reducible exact LeO.none _)
   | (with_reducible refine LeO.ite ?_ ?_)
   | (with_reducible refine LeO.bind ?_ (fun _ => ?_))
   | exact ih0 _ _ _ _
   | exact ih1 _ _ _ _ _ _
   | exact LeO.none _
   | refine LeO.ite ?_ ?_
   | refine LeO.bind ?_ (fun _ => ?_)
theorem chancelref03_Depth.mono : ∀ a0 a1 a2 a3 k, LeO (chancelref03_Depth.f k a0 a1 a2 a3) (chancelref03_Depth.f (k + 1) a0 a1 a2 a3) := by
 intro a0 a1 a2 a3 k
 obtain ⟨ih0, ih1⟩ := chancelref03_Depth.mono_l k
 exact ih0 a0 a1 a2 a3
theorem chancelref03_Depth.calls (k : Nat) : ∀ (a0_0 : Int) (a0_1 : ByteArray) (a0_2 : Int) (A0_3 : Option Addr) (c0_3 : Nat) (l0_3 : List (S32)) (r : Int) (w : World) (hr0_3 : Kd.C k32 w A0_3 l0_3.length l0_3) (hc0_3 : l0_3.length ≤ c0_3) (h : chancelref03_Depth.f k a0_0 a0_1 a0_2 l0_3 = some r),
  Calls Tryz.prog 56 #[.agg #[.int .i64 a0_0, .string a0_1, .int .i64 a0_2, .slice A0_3 l0_3.length c0_3]] w fun e w' => e = .returned (.int .i64 r) ∧ Below w.heap.size w w' := by
 induction k using Nat.strongRecOn with
 | _ k ih =>
 intro a0_0 a0_1 a0_2 A0_3 c0_3 l0_3 r w hr0_3 hc0_3 h
 cases k with
 | zero => exact absurd h (by simp [chancelref03_Depth.f])
 | succ k =>
 simp only [chancelref03_Depth.f] at h
 have hu32 := Tryz.underlying32
 have HR0_3 := Aside0.mk hr0_3
 have HC0_3 := Aside0.mk hc0_3
 clear hr0_3 hc0_3
 have HB := Aside0.mk (Below.refl w.heap.size w)
 have H : (chancelref03_Depth.l0 k 0 0 a0_0 a0_1 a0_2 l0_3) = some r := h
 clear h
 have H' := Aside0.mk H
 clear H
 go_enter Tryz.func56, Tryz.ntmps56
 go_wp2_with (first | ((with_reducible refine zqr (N := 1) rfl ?_); refine zqp ?hg (N := 1) ?hd (cs := #[.int .i64 a0_0, .string a0_1, .int .i64 a0_2, .slice A0_3 l0_3.length c0_3]) (t := 32) ?hr ?_; (case hd => rfl); (case hg => rfl); (case hr => first | (go_simp; done) | (go_simp; rfl)); intro gb311 hg w2 hbox hb; have n0_ := Aside0.mk (zqk (by repeat (first | exact HB.out | apply zqb | apply zqa | apply zqc)) hb); have n1_ := Aside0.mk (hbox); have n2_ := Aside0.mk ((by rw [hg]; exact (zqj (by repeat (first | exact HB.out | apply zqb | apply zqa | apply zqc))) : w.heap.size ≤ gb311)); have n3_ := Aside0.mk ((by rw [hg]; exact (zqj (by repeat (first | exact HB.out | apply zqb | apply zqa | apply zqc))) : w.heap.size ≤ gb311)); clear HB; have HB := n0_; have BK311 := n1_; have GW311 := n2_; have GE311 := n3_; clear n0_ n1_ n2_ n3_; clear hb hbox hg))
 go_loopg [3, 4] k (fun kq v3 v4 w' => ∃ (x3_1 : Int) (x4_1 : Int), v3 = .int .i64 x3_1 ∧ v4 = .int .i64 x4_1 ∧ Aside0 (chancelref03_Depth.l0 kq x3_1 x4_1 a0_0 a0_1 a0_2 l0_3 = some r) ∧ Aside0 (kq ≤ k) ∧ Aside0 (w'.heap[gb311]? = some (.cells #[.int .i64 a0_0, .string a0_1, .int .i64 a0_2, (.slice A0_3 l0_3.length c0_3)] 32 (0, 0))) ∧ Aside0 (Below w.heap.size w w'))
 case atStart => exact ⟨(0), (0), (by first | rfl | (simp [*]; done)), (by first | rfl | (simp [*]; done)), H', ⟨Nat.le_refl _⟩, ⟨by (with_reducible repeat (first | apply zqg | apply zqi | apply zqe)); exact BK311.out⟩, ⟨by repeat (first | (with_reducible first | exact HB.out | apply zqb | apply zqa | apply zqc | refine zqh ?_ GE311.out) | exact HB.out)⟩⟩
 case round =>
  clear H'
  try clear p2
  obtain ⟨x3_1, x4_1, rfl, rfl, HA, HK1, BK311, HB⟩ := hrel
  cases gk with
  | zero => exact absurd HA.out (by simp [chancelref03_Depth.l0])
  | succ k1 =>
   have H := HA.out
   clear HA
   simp only [chancelref03_Depth.l0] at H
   by_cases c3 : x4_1 < (l0_3.length : Int)
   ·rw [if_pos c3] at H
    have c3b0 : decide (x4_1 < (l0_3.length : Int)) = true := decide_eq_true c3
    clear c3
    by_cases c4 : 0 ≤ x4_1
    ·rw [if_pos c4] at H
     have c4b0 : decide (0 ≤ x4_1) = true := decide_eq_true c4
     clear c4
     replace H := Option.bind_eq_some_iff.mp H
     obtain ⟨t313, A50, H⟩ := H
     replace H : (chancelref03_Depth.l0 k1 (mx x3_1 t313) (wrap64 (x4_1 + 1)) a0_0 a0_1 a0_2 l0_3) = some r := H
     have A5 := Aside0.mk A50
     clear A50
     obtain ⟨ji6, hji6⟩ : ∃ j_ : Int, (mx x3_1 t313) = j_ := ⟨_, rfl⟩
     replace H : (chancelref03_Depth.l0 k1 ji6 (wrap64 (x4_1 + 1)) a0_0 a0_1 a0_2 l0_3) = some r := by first | (rw [hji6] at H; exact H) | (simp only [hji6] at H ⊢; exact H)
     (try rw [hji6] at A5)
     have hji6_ : (if x3_1 < t313 then t313 else x3_1) = ji6 := hji6
     have H' := Aside0.mk H
     clear H
     have hcz7_0 : wr.cell? ⟨gb311, 0, none⟩ = some (.int .i64 a0_0) := (zqf BK311.out 0).trans rfl
     have hcz7_1 : wr.cell? ⟨gb311, 1, none⟩ = some (.string a0_1) := (zqf BK311.out 1).trans rfl
     have hcz7_2 : wr.cell? ⟨gb311, 2, none⟩ = some (.int .i64 a0_2) := (zqf BK311.out 2).trans rfl
     have hcz7_3 : wr.cell? ⟨gb311, 3, none⟩ = some (.slice A0_3 l0_3.length c0_3) := (zqf BK311.out 3).trans rfl
     have hfz7_0 := zqd BK311.out 0
     have hfz7_1 := zqd BK311.out 1
     have hfz7_2 := zqd BK311.out 2
     have hfz7_3 := zqd BK311.out 3
     have p312 : 0 ≤ (x4_1 : Int) := of_decide_eq_true (by assumption)
     have q312 : x4_1 < (l0_3.length : Int) := of_decide_eq_true (by assumption)
     obtain ⟨ad312, A312_3, c312_3, e312, hx312_0, hx312_1, hx312_2, hx312_3, hl312_3, hi312_3⟩ := at_T32 HR0_3.out x4_1 p312 q312
     cases e312
     replace hx312_0 := (HB.out.cell (World.block_lt_of_cell? w _ hx312_0)).trans hx312_0
     replace hx312_1 := (HB.out.cell (World.block_lt_of_cell? w _ hx312_1)).trans hx312_1
     replace hx312_2 := (HB.out.cell (World.block_lt_of_cell? w _ hx312_2)).trans hx312_2
     replace hx312_3 := (HB.out.cell (World.block_lt_of_cell? w _ hx312_3)).trans hx312_3
     have HR312_3 := Aside0.mk hi312_3
     have HC312_3 := Aside0.mk hl312_3
     clear hi312_3 hl312_3
     replace p312 := eq_true p312
     replace q312 := eq_true q312
     go_wp2_with (first | ((with_reducible refine zqo (f := 56) rfl ?_); refine zqD (some 18) rfl rfl Tryz.func56 (by kernel_rfl) rfl #[.agg #[.int .i64 ((rd_T32 l0_3 x4_1).f0), .string ((rd_T32 l0_3 x4_1).f1), .int .i64 ((rd_T32 l0_3 x4_1).f2), .slice A312_3 ((rd_T32 l0_3 x4_1).f3).length c312_3]] rfl (by (try simp only [List.map_toArray, List.map_cons, List.map_nil]); first | done | rfl | (simp only [List.length_drop, List.length_take]; rfl)) ?_; (with_reducible refine (ih k1 (by have := HK1.out; omega) ((rd_T32 l0_3 x4_1).f0) ((rd_T32 l0_3 x4_1).f1) ((rd_T32 l0_3 x4_1).f2) _ _ ((rd_T32 l0_3 x4_1).f3) t313 _ ?side1 ?side2 A5.out).mono ?_); (case side1 => repeat (first | exact (Kd.C_below HR312_3.out HB.out) | (with_reducible refine Kd.C_alloc ?_ _) | (with_reducible refine Kd.C_drewN ?_ _) | (with_reducible refine Kd.C_drew ?_))); (case side2 => exact HC312_3.out); rintro e w8 ⟨rfl, hb⟩; refine ⟨_, rfl, ?_⟩; have n0_ := Aside0.mk (zqn (g := gb311) (o := .cells #[.int .i64 a0_0, .string a0_1, .int .i64 a0_2, .slice (some ad312) l0_3.length c0_3] 32 (0, 0)) (by (with_reducible repeat (first | apply zqg | apply zqi | apply zqe)); exact BK311.out) hb); have n1_ := Aside0.mk (zqk (by repeat (first | (with_reducible first | exact HB.out | apply zqb | apply zqa | apply zqc | refine zqh ?_ GE311.out) | exact HB.out)) hb); clear BK311; clear HB; have BK311 := n0_; have HB := n1_; clear n0_ n1_; (try clear hb); (try clear hb2); (try clear hk); (try clear hi)))
     go_roundg k1
     case measure => have := HK1.out; omega
     case rel => exact ⟨(ji6), (wrap64 (x4_1 + 1)), (by first | rfl | (simp; done) | (simp only [← hji6] <;> (first | rfl | simp)) | (simp [*]; done)), (by first | rfl | (simp [*]; done)), H', ⟨by have := HK1.out; omega⟩, ⟨by (with_reducible repeat (first | apply zqg | apply zqi | apply zqe)); exact BK311.out⟩, ⟨by repeat (first | (with_reducible first | exact HB.out | apply zqb | apply zqa | apply zqc | refine zqh ?_ GE311.out) | exact HB.out)⟩⟩
    ·rw [if_neg c4] at H
     exact absurd H (by simp)
   ·rw [if_neg c3] at H
    have c3b0 : decide (x4_1 < (l0_3.length : Int)) = false := decide_eq_false c3
    clear c3
    obtain rfl := Option.some.inj H
    have hcz9_0 : wr.cell? ⟨gb311, 0, none⟩ = some (.int .i64 a0_0) := (zqf BK311.out 0).trans rfl
    have hcz9_1 : wr.cell? ⟨gb311, 1, none⟩ = some (.string a0_1) := (zqf BK311.out 1).trans rfl
    have hcz9_2 : wr.cell? ⟨gb311, 2, none⟩ = some (.int .i64 a0_2) := (zqf BK311.out 2).trans rfl
    have hcz9_3 : wr.cell? ⟨gb311, 3, none⟩ = some (.slice A0_3 l0_3.length c0_3) := (zqf BK311.out 3).trans rfl
    have hfz9_0 := zqd BK311.out 0
    have hfz9_1 := zqd BK311.out 1
    have hfz9_2 := zqd BK311.out 2
    have hfz9_3 := zqd BK311.out 3
    go_wp2
    go_ret
    exact ⟨by first | rfl | (simp [zqm, zql] <;> rfl) | (simp [*, zqm, zql] <;> rfl), by repeat (first | (with_reducible first | exact HB.out | apply zqb | apply zqa | apply zqc | refine zqh ?_ GE311.out) | exact HB.out)⟩
end Go.Proofs.YtchekgnacodolaaGreatDoor.X
end
section
namespace Go.Proofs.YtchekgnacodolaaGreatDoor.X
open Go.RowKit Go.Proofs.YtchekgnacodolaaGreatDoorW.PrintWords Go.Proofs.YtchekgnacodolaaGreatDoorW.PrintLast Go.Proofs.YtchekgnacodolaaGreatDoorW.PrintMore
attribute [local go_sem] zqK zqL max_two min_two zqB zqC zqI zqJ
set_option linter.unusedVariables false
set_option linter.unusedSimpArgs false
mutual
def chancelref03_Size.l0 : Nat → Int → Int → Int → ByteArray → Int → List (S32) → Option (Int)
 | 0, _, _, _, _, _, _ => none
 | k + 1, x3, x4, x315000, x315001, x315002, x315003 => if x4 < (x315003.length : Int) then (if 0 ≤ x4 then ((chancelref03_Size.f k ((rd_T32 x315003 x4).f0) ((rd_T32 x315003 x4).f1) ((rd_T32 x315003 x4).f2) ((rd_T32 x315003 x4).f3)).bind fun t316 => (chancelref03_Size.l0 k (wrap64 (x3 + t316)) (wrap64 (x4 + 1)) x315000 x315001 x315002 x315003)) else (none)) else (some x3)
def chancelref03_Size.f : Nat → Int → ByteArray → Int → List (S32) → Option (Int)
 | 0, _, _, _, _ => none
 | k + 1, a0_0, a0_1, a0_2, l0_3 => chancelref03_Size.l0 k 1 0 a0_0 a0_1 a0_2 l0_3
end
theorem chancelref03_Size.mono_l : ∀ k, (∀ y0 y1 y2 y3, LeO (chancelref03_Size.f k y0 y1 y2 y3) (chancelref03_Size.f (k + 1) y0 y1 y2 y3)) ∧ (∀ y0 y1 y2 y3 y4 y5, LeO (chancelref03_Size.l0 k y0 y1 y2 y3 y4 y5) (chancelref03_Size.l0 (k + 1) y0 y1 y2 y3 y4 y5))
 | 0 => ⟨fun _ _ _ _ r h => by simp [chancelref03_Size.f] at h, fun _ _ _ _ _ _ r h => by simp [chancelref03_Size.l0] at h⟩
 | k + 1 => by
  obtain ⟨ih0, ih1⟩ := chancelref03_Size.mono_l k
  refine ⟨?_, ?_⟩
  ·intro y0 y1 y2 y3
   unfold chancelref03_Size.f
   repeat' first
   | (with_reducible exact ih0 _ _ _ _)
   | (with_reducible exact ih1 _ _ _ _ _ _)
   | (with_reducible exact LeO.refl _)
   | (with_reducible exact LeO.none _)
   | (with_reducible refine LeO.ite ?_ ?_)
   | (with_reducible refine LeO.bind ?_ (fun _ => ?_))
   | exact ih0 _ _ _ _
   | exact ih1 _ _ _ _ _ _
   | exact LeO.none _
   | refine LeO.ite ?_ ?_
   | refine LeO.bind ?_ (fun _ => ?_)
  ·intro y0 y1 y2 y3 y4 y5
   unfold chancelref03_Size.l0
   repeat' first
   | (with_reducible exact ih0 _ _ _ _)
   | (with_reducible exact ih1 _ _ _ _ _ _)
   | (with_reducible exact LeO.refl _)
   | (with_reducible exact LeO.none _)
   | (with_reducible refine LeO.ite ?_ ?_)
   | (with_reducible refine LeO.bind ?_ (fun _ => ?_))
   | exact ih0 _ _ _ _
   | exact ih1 _ _ _ _ _ _
   | exact LeO.none _
   | refine LeO.ite ?_ ?_
   | refine LeO.bind ?_ (fun _ => ?_)
theorem chancelref03_Size.mono : ∀ a0 a1 a2 a3 k, LeO (chancelref03_Size.f k a0 a1 a2 a3) (chancelref03_Size.f (k + 1) a0 a1 a2 a3) := by
 intro a0 a1 a2 a3 k
 obtain ⟨ih0, ih1⟩ := chancelref03_Size.mono_l k
 exact ih0 a0 a1 a2 a3
theorem chancelref03_Size.calls (k : Nat) : ∀ (a0_0 : Int) (a0_1 : ByteArray) (a0_2 : Int) (A0_3 : Option Addr) (c0_3 : Nat) (l0_3 : List (S32)) (r : Int) (w : World) (hr0_3 : Kd.C k32 w A0_3 l0_3.length l0_3) (hc0_3 : l0_3.length ≤ c0_3) (h : chancelref03_Size.f k a0_0 a0_1 a0_2 l0_3 = some r),
  Calls Tryz.prog 57 #[.agg #[.int .i64 a0_0, .string a0_1, .int .i64 a0_2, .slice A0_3 l0_3.length c0_3]] w fun e w' => e = .returned (.int .i64 r) ∧ Below w.heap.size w w' := by
 induction k using Nat.strongRecOn with
 | _ k ih =>
 intro a0_0 a0_1 a0_2 A0_3 c0_3 l0_3 r w hr0_3 hc0_3 h
 cases k with
 | zero => exact absurd h (by simp [chancelref03_Size.f])
 | succ k =>
 simp only [chancelref03_Size.f] at h
 have hu32 := Tryz.underlying32
 have HR0_3 := Aside0.mk hr0_3
 have HC0_3 := Aside0.mk hc0_3
 clear hr0_3 hc0_3
 have HB := Aside0.mk (Below.refl w.heap.size w)
 have H : (chancelref03_Size.l0 k 1 0 a0_0 a0_1 a0_2 l0_3) = some r := h
 clear h
 have H' := Aside0.mk H
 clear H
 go_enter Tryz.func57, Tryz.ntmps57
 go_wp2_with (first | ((with_reducible refine zqr (N := 1) rfl ?_); refine zqp ?hg (N := 1) ?hd (cs := #[.int .i64 a0_0, .string a0_1, .int .i64 a0_2, .slice A0_3 l0_3.length c0_3]) (t := 32) ?hr ?_; (case hd => rfl); (case hg => rfl); (case hr => first | (go_simp; done) | (go_simp; rfl)); intro gb314 hg w2 hbox hb; have n0_ := Aside0.mk (zqk (by repeat (first | exact HB.out | apply zqb | apply zqa | apply zqc)) hb); have n1_ := Aside0.mk (hbox); have n2_ := Aside0.mk ((by rw [hg]; exact (zqj (by repeat (first | exact HB.out | apply zqb | apply zqa | apply zqc))) : w.heap.size ≤ gb314)); have n3_ := Aside0.mk ((by rw [hg]; exact (zqj (by repeat (first | exact HB.out | apply zqb | apply zqa | apply zqc))) : w.heap.size ≤ gb314)); clear HB; have HB := n0_; have BK314 := n1_; have GW314 := n2_; have GE314 := n3_; clear n0_ n1_ n2_ n3_; clear hb hbox hg))
 go_loopg [3, 4] k (fun kq v3 v4 w' => ∃ (x3_1 : Int) (x4_1 : Int), v3 = .int .i64 x3_1 ∧ v4 = .int .i64 x4_1 ∧ Aside0 (chancelref03_Size.l0 kq x3_1 x4_1 a0_0 a0_1 a0_2 l0_3 = some r) ∧ Aside0 (kq ≤ k) ∧ Aside0 (w'.heap[gb314]? = some (.cells #[.int .i64 a0_0, .string a0_1, .int .i64 a0_2, (.slice A0_3 l0_3.length c0_3)] 32 (0, 0))) ∧ Aside0 (Below w.heap.size w w'))
 case atStart => exact ⟨(1), (0), (by first | rfl | (simp [*]; done)), (by first | rfl | (simp [*]; done)), H', ⟨Nat.le_refl _⟩, ⟨by (with_reducible repeat (first | apply zqg | apply zqi | apply zqe)); exact BK314.out⟩, ⟨by repeat (first | (with_reducible first | exact HB.out | apply zqb | apply zqa | apply zqc | refine zqh ?_ GE314.out) | exact HB.out)⟩⟩
 case round =>
  clear H'
  try clear p2
  obtain ⟨x3_1, x4_1, rfl, rfl, HA, HK1, BK314, HB⟩ := hrel
  cases gk with
  | zero => exact absurd HA.out (by simp [chancelref03_Size.l0])
  | succ k1 =>
   have H := HA.out
   clear HA
   simp only [chancelref03_Size.l0] at H
   by_cases c3 : x4_1 < (l0_3.length : Int)
   ·rw [if_pos c3] at H
    have c3b0 : decide (x4_1 < (l0_3.length : Int)) = true := decide_eq_true c3
    clear c3
    by_cases c4 : 0 ≤ x4_1
    ·rw [if_pos c4] at H
     have c4b0 : decide (0 ≤ x4_1) = true := decide_eq_true c4
     clear c4
     replace H := Option.bind_eq_some_iff.mp H
     obtain ⟨t316, A50, H⟩ := H
     replace H : (chancelref03_Size.l0 k1 (wrap64 (x3_1 + t316)) (wrap64 (x4_1 + 1)) a0_0 a0_1 a0_2 l0_3) = some r := H
     have A5 := Aside0.mk A50
     clear A50
     have H' := Aside0.mk H
     clear H
     have hcz6_0 : wr.cell? ⟨gb314, 0, none⟩ = some (.int .i64 a0_0) := (zqf BK314.out 0).trans rfl
     have hcz6_1 : wr.cell? ⟨gb314, 1, none⟩ = some (.string a0_1) := (zqf BK314.out 1).trans rfl
     have hcz6_2 : wr.cell? ⟨gb314, 2, none⟩ = some (.int .i64 a0_2) := (zqf BK314.out 2).trans rfl
     have hcz6_3 : wr.cell? ⟨gb314, 3, none⟩ = some (.slice A0_3 l0_3.length c0_3) := (zqf BK314.out 3).trans rfl
     have hfz6_0 := zqd BK314.out 0
     have hfz6_1 := zqd BK314.out 1
     have hfz6_2 := zqd BK314.out 2
     have hfz6_3 := zqd BK314.out 3
     have p315 : 0 ≤ (x4_1 : Int) := of_decide_eq_true (by assumption)
     have q315 : x4_1 < (l0_3.length : Int) := of_decide_eq_true (by assumption)
     obtain ⟨ad315, A315_3, c315_3, e315, hx315_0, hx315_1, hx315_2, hx315_3, hl315_3, hi315_3⟩ := at_T32 HR0_3.out x4_1 p315 q315
     cases e315
     replace hx315_0 := (HB.out.cell (World.block_lt_of_cell? w _ hx315_0)).trans hx315_0
     replace hx315_1 := (HB.out.cell (World.block_lt_of_cell? w _ hx315_1)).trans hx315_1
     replace hx315_2 := (HB.out.cell (World.block_lt_of_cell? w _ hx315_2)).trans hx315_2
     replace hx315_3 := (HB.out.cell (World.block_lt_of_cell? w _ hx315_3)).trans hx315_3
     have HR315_3 := Aside0.mk hi315_3
     have HC315_3 := Aside0.mk hl315_3
     clear hi315_3 hl315_3
     replace p315 := eq_true p315
     replace q315 := eq_true q315
     go_wp2_with (first | ((with_reducible refine zqo (f := 57) rfl ?_); refine zqD (some 18) rfl rfl Tryz.func57 (by kernel_rfl) rfl #[.agg #[.int .i64 ((rd_T32 l0_3 x4_1).f0), .string ((rd_T32 l0_3 x4_1).f1), .int .i64 ((rd_T32 l0_3 x4_1).f2), .slice A315_3 ((rd_T32 l0_3 x4_1).f3).length c315_3]] rfl (by (try simp only [List.map_toArray, List.map_cons, List.map_nil]); first | done | rfl | (simp only [List.length_drop, List.length_take]; rfl)) ?_; (with_reducible refine (ih k1 (by have := HK1.out; omega) ((rd_T32 l0_3 x4_1).f0) ((rd_T32 l0_3 x4_1).f1) ((rd_T32 l0_3 x4_1).f2) _ _ ((rd_T32 l0_3 x4_1).f3) t316 _ ?side1 ?side2 A5.out).mono ?_); (case side1 => repeat (first | exact (Kd.C_below HR315_3.out HB.out) | (with_reducible refine Kd.C_alloc ?_ _) | (with_reducible refine Kd.C_drewN ?_ _) | (with_reducible refine Kd.C_drew ?_))); (case side2 => exact HC315_3.out); rintro e w7 ⟨rfl, hb⟩; refine ⟨_, rfl, ?_⟩; have n0_ := Aside0.mk (zqn (g := gb314) (o := .cells #[.int .i64 a0_0, .string a0_1, .int .i64 a0_2, .slice (some ad315) l0_3.length c0_3] 32 (0, 0)) (by (with_reducible repeat (first | apply zqg | apply zqi | apply zqe)); exact BK314.out) hb); have n1_ := Aside0.mk (zqk (by repeat (first | (with_reducible first | exact HB.out | apply zqb | apply zqa | apply zqc | refine zqh ?_ GE314.out) | exact HB.out)) hb); clear BK314; clear HB; have BK314 := n0_; have HB := n1_; clear n0_ n1_; (try clear hb); (try clear hb2); (try clear hk); (try clear hi)))
     go_roundg k1
     case measure => have := HK1.out; omega
     case rel => exact ⟨(wrap64 (x3_1 + t316)), (wrap64 (x4_1 + 1)), (by first | rfl | (simp [*]; done)), (by first | rfl | (simp [*]; done)), H', ⟨by have := HK1.out; omega⟩, ⟨by (with_reducible repeat (first | apply zqg | apply zqi | apply zqe)); exact BK314.out⟩, ⟨by repeat (first | (with_reducible first | exact HB.out | apply zqb | apply zqa | apply zqc | refine zqh ?_ GE314.out) | exact HB.out)⟩⟩
    ·rw [if_neg c4] at H
     exact absurd H (by simp)
   ·rw [if_neg c3] at H
    have c3b0 : decide (x4_1 < (l0_3.length : Int)) = false := decide_eq_false c3
    clear c3
    obtain rfl := Option.some.inj H
    have hcz8_0 : wr.cell? ⟨gb314, 0, none⟩ = some (.int .i64 a0_0) := (zqf BK314.out 0).trans rfl
    have hcz8_1 : wr.cell? ⟨gb314, 1, none⟩ = some (.string a0_1) := (zqf BK314.out 1).trans rfl
    have hcz8_2 : wr.cell? ⟨gb314, 2, none⟩ = some (.int .i64 a0_2) := (zqf BK314.out 2).trans rfl
    have hcz8_3 : wr.cell? ⟨gb314, 3, none⟩ = some (.slice A0_3 l0_3.length c0_3) := (zqf BK314.out 3).trans rfl
    have hfz8_0 := zqd BK314.out 0
    have hfz8_1 := zqd BK314.out 1
    have hfz8_2 := zqd BK314.out 2
    have hfz8_3 := zqd BK314.out 3
    go_wp2
    go_ret
    exact ⟨by first | rfl | (simp [zqm, zql] <;> rfl) | (simp [*, zqm, zql] <;> rfl), by repeat (first | (with_reducible first | exact HB.out | apply zqb | apply zqa | apply zqc | refine zqh ?_ GE314.out) | exact HB.out)⟩
end Go.Proofs.YtchekgnacodolaaGreatDoor.X
end
section
namespace Go.Proofs.YtchekgnacodolaaGreatDoor.X
open Go.RowKit Go.Proofs.YtchekgnacodolaaGreatDoorW.PrintWords Go.Proofs.YtchekgnacodolaaGreatDoorW.PrintLast Go.Proofs.YtchekgnacodolaaGreatDoorW.PrintMore
attribute [local go_sem] zqK zqL max_two min_two zqB zqC zqI zqJ
set_option linter.unusedVariables false
set_option linter.unusedSimpArgs false
mutual
def chancellaw05_refTerm.l0 : Nat → Int → Int → ByteArray → Int → List (S26) → Int → ByteArray → Int → List (S32) → Option (Int × ByteArray × Int × (List (S32)))
 | 0, _, _, _, _, _, _, _, _, _ => none
 | k + 1, x4, x383000, x383001, x383002, x383003, x385000, x385001, x385002, x385003 => if x4 < (x383003.length : Int) then (if 0 ≤ x4 then ((chancellaw05_refTerm.f k ((zqA x383003 x4).f0) ((zqA x383003 x4).f1) ((zqA x383003 x4).f2) ((zqA x383003 x4).f3)).bind fun bt386 => (if x385003.length < 2513169434916 then (chancellaw05_refTerm.l0 k (wrap64 (x4 + 1)) x383000 x383001 x383002 x383003 x385000 x385001 x385002 (x385003 ++ [(⟨bt386.1, bt386.2.1, bt386.2.2.1, bt386.2.2.2⟩ : S32)])) else (none))) else (none)) else (some (x385000, x385001, x385002, x385003))
def chancellaw05_refTerm.f : Nat → Int → ByteArray → Int → List (S26) → Option (Int × ByteArray × Int × (List (S32)))
 | 0, _, _, _, _ => none
 | k + 1, a0_0, a0_1, a0_2, l0_3 => chancellaw05_refTerm.l0 k 0 a0_0 a0_1 a0_2 l0_3 a0_0 a0_1 a0_2 ([] : List (S32))
end
theorem chancellaw05_refTerm.mono_l : ∀ k, (∀ y0 y1 y2 y3, LeO (chancellaw05_refTerm.f k y0 y1 y2 y3) (chancellaw05_refTerm.f (k + 1) y0 y1 y2 y3)) ∧ (∀ y0 y1 y2 y3 y4 y5 y6 y7 y8, LeO (chancellaw05_refTerm.l0 k y0 y1 y2 y3 y4 y5 y6 y7 y8) (chancellaw05_refTerm.l0 (k + 1) y0 y1 y2 y3 y4 y5 y6 y7 y8))
 | 0 => ⟨fun _ _ _ _ r h => by simp [chancellaw05_refTerm.f] at h, fun _ _ _ _ _ _ _ _ _ r h => by simp [chancellaw05_refTerm.l0] at h⟩
 | k + 1 => by
  obtain ⟨ih0, ih1⟩ := chancellaw05_refTerm.mono_l k
  refine ⟨?_, ?_⟩
  ·intro y0 y1 y2 y3
   unfold chancellaw05_refTerm.f
   repeat' first
   | (with_reducible exact ih0 _ _ _ _)
   | (with_reducible exact ih1 _ _ _ _ _ _ _ _ _)
   | (with_reducible exact LeO.refl _)
   | (with_reducible exact LeO.none _)
   | (with_reducible refine LeO.ite ?_ ?_)
   | (with_reducible refine LeO.bind ?_ (fun _ => ?_))
   | exact ih0 _ _ _ _
   | exact ih1 _ _ _ _ _ _ _ _ _
   | exact LeO.none _
   | refine LeO.ite ?_ ?_
   | refine LeO.bind ?_ (fun _ => ?_)
  ·intro y0 y1 y2 y3 y4 y5 y6 y7 y8
   unfold chancellaw05_refTerm.l0
   repeat' first
   | (with_reducible exact ih0 _ _ _ _)
   | (with_reducible exact ih1 _ _ _ _ _ _ _ _ _)
   | (with_reducible exact LeO.refl _)
   | (with_reducible exact LeO.none _)
   | (with_reducible refine LeO.ite ?_ ?_)
   | (with_reducible refine LeO.bind ?_ (fun _ => ?_))
   | exact ih0 _ _ _ _
   | exact ih1 _ _ _ _ _ _ _ _ _
   | exact LeO.none _
   | refine LeO.ite ?_ ?_
   | refine LeO.bind ?_ (fun _ => ?_)
theorem chancellaw05_refTerm.mono : ∀ a0 a1 a2 a3 k, LeO (chancellaw05_refTerm.f k a0 a1 a2 a3) (chancellaw05_refTerm.f (k + 1) a0 a1 a2 a3) := by
 intro a0 a1 a2 a3 k
 obtain ⟨ih0, ih1⟩ := chancellaw05_refTerm.mono_l k
 exact ih0 a0 a1 a2 a3
def chancellaw05_refTerm.T5 : Bool × List (List Nat × List Nat) := (true, [([], []), ([0], [0]), ([], []), ([2], [2]), ([], []), ([3, 4], [3, 4]), ([5], [5]), ([6], [6]), ([7], [7]), ([1, 8, 7], [1, 8]), ([0, 1, 2, 3, 4, 5, 6, 7, 8, 9], []), ([10, 9, 9, 0, 1, 2, 3, 4, 5, 6, 7, 8, 9], [9, 10])])
def chancellaw05_refTerm.B5 : List Nat := [0, 1, 0, 4, 0, 28, 60, 124, 252, 511, 1023, 2047]
theorem chancellaw05_refTerm.tab5 : rtab .any (opsOf Tryz.f25 5) = chancellaw05_refTerm.T5 := by kernel_rfl
theorem chancellaw05_refTerm.bits5 : waitsOk chancellaw05_refTerm.T5.2 chancellaw05_refTerm.B5 = true := by kernel_rfl
theorem chancellaw05_refTerm.calls (k : Nat) : ∀ (a0_0 : Int) (a0_1 : ByteArray) (a0_2 : Int) (A0_3 : Option Addr) (c0_3 : Nat) (l0_3 : List (S26)) (r1 : Int) (r2 : ByteArray) (r3 : Int) (r4 : List (S32)) (w : World) (hr0_3 : Kd.C k26 w A0_3 l0_3.length l0_3) (hc0_3 : l0_3.length ≤ c0_3) (h : chancellaw05_refTerm.f k a0_0 a0_1 a0_2 l0_3 = some (r1, r2, r3, r4)),
  Calls Tryz.prog 25 #[.agg #[.int .i64 a0_0, .string a0_1, .int .i64 a0_2, .slice A0_3 l0_3.length c0_3]] w fun e w' => ∃ v3_ : Value, e = .returned (.agg #[.int .i64 r1, .string r2, .int .i64 r3, v3_]) ∧ Kd.R k32 32 w' w.heap.size (fun _ => True) v3_ r4 ∧ Below w.heap.size w w' := by
 induction k using Nat.strongRecOn with
 | _ k ih =>
 intro a0_0 a0_1 a0_2 A0_3 c0_3 l0_3 r1 r2 r3 r4 w hr0_3 hc0_3 h
 cases k with
 | zero => exact absurd h (by simp [chancellaw05_refTerm.f])
 | succ k =>
 simp only [chancellaw05_refTerm.f] at h
 have hu26 := Tryz.underlying26
 have hu32 := Tryz.underlying32
 have HR0_3 := Aside0.mk hr0_3
 have HC0_3 := Aside0.mk hc0_3
 clear hr0_3 hc0_3
 have HB := Aside0.mk (Below.refl w.heap.size w)
 have H : (chancellaw05_refTerm.l0 k 0 a0_0 a0_1 a0_2 l0_3 a0_0 a0_1 a0_2 ([] : List (S32))) = some (r1, r2, r3, r4) := h
 clear h
 have H' := Aside0.mk H
 clear H
 go_enter Tryz.func25, Tryz.ntmps25
 go_wp2_with (first | ((with_reducible refine zqr (N := 1) rfl ?_); refine zqp ?hg (N := 1) ?hd (cs := #[.int .i64 a0_0, .string a0_1, .int .i64 a0_2, .slice A0_3 l0_3.length c0_3]) (t := 26) ?hr ?_; (case hd => rfl); (case hg => rfl); (case hr => first | (go_simp; done) | (go_simp; rfl)); intro gb382 hg w2 hbox hb; have n0_ := Aside0.mk (zqk (by repeat (first | exact HB.out | apply zqb | apply zqa | apply zqc)) hb); have n1_ := Aside0.mk (hbox); have n2_ := Aside0.mk ((by rw [hg]; exact (zqj (by repeat (first | exact HB.out | apply zqb | apply zqa | apply zqc))) : w.heap.size ≤ gb382)); have n3_ := Aside0.mk ((by rw [hg]; exact (zqj (by repeat (first | exact HB.out | apply zqb | apply zqa | apply zqc))) : w.heap.size ≤ gb382)); clear HB; have HB := n0_; have BK382 := n1_; have GW382 := n2_; have GE382 := n3_; clear n0_ n1_ n2_ n3_; clear hb hbox hg) | ((with_reducible refine zqr (N := 2) rfl ?_); refine zqp ?hg (N := 2) ?hd (cs := #[.int .i64 0, .string (⟨#[]⟩ : ByteArray), .int .i64 0, .slice none 0 0]) (t := 32) ?hr ?_; (case hd => rfl); (case hg => rfl); (case hr => first | (go_simp; done) | (go_simp; rfl)); intro gb383 hg w3 hbox hb; have n0_ := Aside0.mk (zqn (g := gb382) (o := .cells #[.int .i64 a0_0, .string a0_1, .int .i64 a0_2, .slice A0_3 l0_3.length c0_3] 26 (0, 0)) (by (with_reducible repeat (first | apply zqg | apply zqi | apply zqe)); exact BK382.out) hb); have n1_ := Aside0.mk (zqk (by repeat (first | (with_reducible first | exact HB.out | apply zqb | apply zqa | apply zqc | refine zqh ?_ GE382.out) | exact HB.out)) hb); have n2_ := Aside0.mk (hbox); have n3_ := Aside0.mk ((by rw [hg]; exact (zqj (by repeat (first | (with_reducible first | exact HB.out | apply zqb | apply zqa | apply zqc | refine zqh ?_ GE382.out) | exact HB.out))) : w.heap.size ≤ gb383)); have n4_ := Aside0.mk ((by rw [hg]; exact (zqj (by repeat (first | (with_reducible first | exact HB.out | apply zqb | apply zqa | apply zqc | refine zqh ?_ GE382.out) | exact HB.out))) : w.heap.size ≤ gb383)); have n5_ := Aside0.mk ((by rw [hg]; exact Nat.ne_of_lt (blk_lt (g := gb382) (o := .cells #[.int .i64 a0_0, .string a0_1, .int .i64 a0_2, .slice A0_3 l0_3.length c0_3] 26 (0, 0)) (by (with_reducible repeat (first | apply zqg | apply zqi | apply zqe)); exact BK382.out)) : gb382 ≠ gb383)); have n6_ := Aside0.mk ((by rw [hg]; exact Nat.ne_of_gt (blk_lt (g := gb382) (o := .cells #[.int .i64 a0_0, .string a0_1, .int .i64 a0_2, .slice A0_3 l0_3.length c0_3] 26 (0, 0)) (by (with_reducible repeat (first | apply zqg | apply zqi | apply zqe)); exact BK382.out)) : gb383 ≠ gb382)); clear BK382; clear HB; have BK382 := n0_; have HB := n1_; have BK383 := n2_; have GW383 := n3_; have GE383 := n4_; have NB382_383 := n5_; have NB383_382 := n6_; clear n0_ n1_ n2_ n3_ n4_ n5_ n6_; clear hb hbox hg; have hnb4 := NB382_383.out; have hnc4 := NB383_382.out; have hcz5_0 : w3.cell? ⟨gb382, 0, none⟩ = some (.int .i64 a0_0) := (zqf BK382.out 0).trans rfl; have hcz5_1 : w3.cell? ⟨gb382, 1, none⟩ = some (.string a0_1) := (zqf BK382.out 1).trans rfl; have hcz5_2 : w3.cell? ⟨gb382, 2, none⟩ = some (.int .i64 a0_2) := (zqf BK382.out 2).trans rfl; have hcz5_3 : w3.cell? ⟨gb382, 3, none⟩ = some (.slice A0_3 l0_3.length c0_3) := (zqf BK382.out 3).trans rfl; have hfz5_0 := zqd BK382.out 0; have hfz5_1 := zqd BK382.out 1; have hfz5_2 := zqd BK382.out 2; have hfz5_3 := zqd BK382.out 3) | ((with_reducible refine zqr (N := 3) rfl ?_); refine zqp ?hg (N := 3) ?hd (cs := #[.int .i64 0, .string (⟨#[]⟩ : ByteArray), .int .i64 0, .slice none 0 0]) (t := 32) ?hr ?_; (case hd => rfl); (case hg => rfl); (case hr => first | (go_simp; done) | (go_simp; rfl)); intro gb384 hg w6 hbox hb; have n0_ := Aside0.mk (zqn (g := gb382) (o := .cells #[.int .i64 a0_0, .string a0_1, .int .i64 a0_2, .slice A0_3 l0_3.length c0_3] 26 (0, 0)) (by (with_reducible repeat (first | apply zqg | apply zqi | apply zqe)); exact BK382.out) hb); have n1_ := Aside0.mk (zqn (g := gb383) (o := .cells #[.int .i64 0, .string (⟨#[]⟩ : ByteArray), .int .i64 0, .slice none 0 0] 32 (0, 0)) (by (with_reducible repeat (first | apply zqg | apply zqi | apply zqe)); exact BK383.out) hb); have n2_ := Aside0.mk (zqk (by repeat (first | (with_reducible first | exact HB.out | apply zqb | apply zqa | apply zqc | refine zqh ?_ GE382.out | refine zqh ?_ GE383.out) | exact HB.out)) hb); have n3_ := Aside0.mk (hbox); have n4_ := Aside0.mk ((by rw [hg]; exact (zqj (by repeat (first | (with_reducible first | exact HB.out | apply zqb | apply zqa | apply zqc | refine zqh ?_ GE382.out | refine zqh ?_ GE383.out) | exact HB.out))) : w.heap.size ≤ gb384)); have n5_ := Aside0.mk ((by rw [hg]; exact (zqj (by repeat (first | (with_reducible first | exact HB.out | apply zqb | apply zqa | apply zqc | refine zqh ?_ GE382.out | refine zqh ?_ GE383.out) | exact HB.out))) : w.heap.size ≤ gb384)); have n6_ := Aside0.mk ((by rw [hg]; exact Nat.ne_of_lt (blk_lt (g := gb382) (o := .cells #[.int .i64 a0_0, .string a0_1, .int .i64 a0_2, .slice A0_3 l0_3.length c0_3] 26 (0, 0)) (by (with_reducible repeat (first | apply zqg | apply zqi | apply zqe)); exact BK382.out)) : gb382 ≠ gb384)); have n7_ := Aside0.mk ((by rw [hg]; exact Nat.ne_of_gt (blk_lt (g := gb382) (o := .cells #[.int .i64 a0_0, .string a0_1, .int .i64 a0_2, .slice A0_3 l0_3.length c0_3] 26 (0, 0)) (by (with_reducible repeat (first | apply zqg | apply zqi | apply zqe)); exact BK382.out)) : gb384 ≠ gb382)); have n8_ := Aside0.mk ((by rw [hg]; exact Nat.ne_of_lt (blk_lt (g := gb383) (o := .cells #[.int .i64 0, .string (⟨#[]⟩ : ByteArray), .int .i64 0, .slice none 0 0] 32 (0, 0)) (by (with_reducible repeat (first | apply zqg | apply zqi | apply zqe)); exact BK383.out)) : gb383 ≠ gb384)); have n9_ := Aside0.mk ((by rw [hg]; exact Nat.ne_of_gt (blk_lt (g := gb383) (o := .cells #[.int .i64 0, .string (⟨#[]⟩ : ByteArray), .int .i64 0, .slice none 0 0] 32 (0, 0)) (by (with_reducible repeat (first | apply zqg | apply zqi | apply zqe)); exact BK383.out)) : gb384 ≠ gb383)); clear BK382; clear BK383; clear HB; have BK382 := n0_; have BK383 := n1_; have HB := n2_; have BK384 := n3_; have GW384 := n4_; have GE384 := n5_; have NB382_384 := n6_; have NB384_382 := n7_; have NB383_384 := n8_; have NB384_383 := n9_; clear n0_ n1_ n2_ n3_ n4_ n5_ n6_ n7_ n8_ n9_; clear hb hbox hg; have hnb7 := NB384_382.out; have hnc7 := NB382_384.out; have hnb8 := NB384_383.out; have hnc8 := NB383_384.out; have hcz9_0 : w6.cell? ⟨gb384, 0, none⟩ = some (.int .i64 0) := (zqf BK384.out 0).trans rfl; have hcz9_1 : w6.cell? ⟨gb384, 1, none⟩ = some (.string (⟨#[]⟩ : ByteArray)) := (zqf BK384.out 1).trans rfl; have hcz9_2 : w6.cell? ⟨gb384, 2, none⟩ = some (.int .i64 0) := (zqf BK384.out 2).trans rfl; have hcz9_3 : w6.cell? ⟨gb384, 3, none⟩ = some (.slice none 0 0) := (zqf BK384.out 3).trans rfl; have hfz9_0 := zqd BK384.out 0; have hfz9_1 := zqd BK384.out 1; have hfz9_2 := zqd BK384.out 2; have hfz9_3 := zqd BK384.out 3))
 go_loopg [4] k (fun kq v4 w' => ∃ (x4_1 : Int) (x385003_1 : List (S32)) (u385003 : Value), v4 = .int .i64 x4_1 ∧ Aside0 (chancellaw05_refTerm.l0 kq x4_1 a0_0 a0_1 a0_2 l0_3 a0_0 a0_1 a0_2 x385003_1 = some (r1, r2, r3, r4)) ∧ Aside0 (kq ≤ k) ∧ Aside0 (Kd.R k32 32 w' w.heap.size (fun k_ => k_ ≠ gb383 ∧ k_ ≠ gb384) u385003 x385003_1) ∧ Aside0 (w'.heap[gb382]? = some (.cells #[.int .i64 a0_0, .string a0_1, .int .i64 a0_2, (.slice A0_3 l0_3.length c0_3)] 26 (0, 0))) ∧ Aside0 (w'.heap[gb383]? = some (.cells #[.int .i64 0, .string (⟨#[]⟩ : ByteArray), .int .i64 0, (.slice none 0 0)] 32 (0, 0))) ∧ Aside0 (w'.heap[gb384]? = some (.cells #[.int .i64 a0_0, .string a0_1, .int .i64 a0_2, u385003] 32 (0, 0))) ∧ Aside0 (Below w.heap.size w w'))
 case atStart => exact ⟨(0), (([] : List (S32))), (.slice none 0 0), (by first | rfl | (simp [*]; done)), H', ⟨Nat.le_refl _⟩, ⟨by first | exact Kd.R_nil _ _ _ _ _ | exact Kd.N_nil _ _ _ _ _ | exact Kd.V_nil _ _ _ _ _ | exact Kd.Q_nil _ _ _ _ _ | exact Kd.S_nil _ _ _ _ _⟩, ⟨by (with_reducible repeat (first | apply zqg | apply zqi | apply zqe)); refine blk_far ?_ NB382_384.out _; (with_reducible repeat (first | apply zqg | apply zqi | apply zqe)); refine blk_far ?_ NB382_384.out _; (with_reducible repeat (first | apply zqg | apply zqi | apply zqe)); refine blk_far ?_ NB382_384.out _; (with_reducible repeat (first | apply zqg | apply zqi | apply zqe)); refine blk_far ?_ NB382_384.out _; (with_reducible repeat (first | apply zqg | apply zqi | apply zqe)); exact BK382.out⟩, ⟨by (with_reducible repeat (first | apply zqg | apply zqi | apply zqe)); refine blk_far ?_ NB383_384.out _; (with_reducible repeat (first | apply zqg | apply zqi | apply zqe)); refine blk_far ?_ NB383_384.out _; (with_reducible repeat (first | apply zqg | apply zqi | apply zqe)); refine blk_far ?_ NB383_384.out _; (with_reducible repeat (first | apply zqg | apply zqi | apply zqe)); refine blk_far ?_ NB383_384.out _; (with_reducible repeat (first | apply zqg | apply zqi | apply zqe)); exact BK383.out⟩, ⟨by (with_reducible repeat (first | apply zqg | apply zqi | apply zqe)); refine zqq (cs := #[.int .i64 a0_0, .string a0_1, .int .i64 a0_2, .slice none 0 0]) ?_ 3 _ rfl; (with_reducible repeat (first | apply zqg | apply zqi | apply zqe)); refine zqq (cs := #[.int .i64 a0_0, .string a0_1, .int .i64 0, .slice none 0 0]) ?_ 2 _ rfl; (with_reducible repeat (first | apply zqg | apply zqi | apply zqe)); refine zqq (cs := #[.int .i64 a0_0, .string (⟨#[]⟩ : ByteArray), .int .i64 0, .slice none 0 0]) ?_ 1 _ rfl; (with_reducible repeat (first | apply zqg | apply zqi | apply zqe)); refine zqq (cs := #[.int .i64 0, .string (⟨#[]⟩ : ByteArray), .int .i64 0, .slice none 0 0]) ?_ 0 _ rfl; (with_reducible repeat (first | apply zqg | apply zqi | apply zqe)); exact BK384.out⟩, ⟨by repeat (first | (with_reducible first | exact HB.out | apply zqb | apply zqa | apply zqc | refine zqh ?_ GE382.out | refine zqh ?_ GE383.out | refine zqh ?_ GE384.out) | exact HB.out)⟩⟩
 case round =>
  clear H'
  try clear c2
  try clear p2
  try clear c4
  try clear c7
  try clear c8
  try clear hcz5_0
  try clear hcz5_1
  try clear hcz5_2
  try clear hcz5_3
  try clear hcz9_0
  try clear hcz9_1
  try clear hcz9_2
  try clear hcz9_3
  try clear hfz5_0
  try clear hfz5_1
  try clear hfz5_2
  try clear hfz5_3
  try clear hfz9_0
  try clear hfz9_1
  try clear hfz9_2
  try clear hfz9_3
  obtain ⟨x4_1, x385003_1, u385003, rfl, HA, HK1, HO_385003, BK382, BK383, BK384, HB⟩ := hrel
  cases gk with
  | zero => exact absurd HA.out (by simp [chancellaw05_refTerm.l0])
  | succ k1 =>
   have H := HA.out
   clear HA
   simp only [chancellaw05_refTerm.l0] at H
   by_cases c10 : x4_1 < (l0_3.length : Int)
   ·rw [if_pos c10] at H
    have c10b0 : decide (x4_1 < (l0_3.length : Int)) = true := decide_eq_true c10
    clear c10
    by_cases c11 : 0 ≤ x4_1
    ·rw [if_pos c11] at H
     have c11b0 : decide (0 ≤ x4_1) = true := decide_eq_true c11
     clear c11
     replace H := Option.bind_eq_some_iff.mp H
     obtain ⟨⟨t386, t387, t388, t389⟩, A120, H⟩ := H
     replace H : (if x385003_1.length < 2513169434916 then (chancellaw05_refTerm.l0 k1 (wrap64 (x4_1 + 1)) a0_0 a0_1 a0_2 l0_3 a0_0 a0_1 a0_2 (x385003_1 ++ [(⟨t386, t387, t388, t389⟩ : S32)])) else (none)) = some (r1, r2, r3, r4) := H
     have A12 := Aside0.mk A120
     clear A120
     by_cases c13 : x385003_1.length < 2513169434916
     ·rw [if_pos c13] at H
      have LMc13 := Aside0.mk c13
      clear c13
      obtain ⟨y392, hy392⟩ : ∃ y_ : List (S32), y_ = (x385003_1 ++ [(⟨t386, t387, t388, t389⟩ : S32)]) := ⟨_, rfl⟩
      replace H : (chancellaw05_refTerm.l0 k1 (wrap64 (x4_1 + 1)) a0_0 a0_1 a0_2 l0_3 a0_0 a0_1 a0_2 y392) = some (r1, r2, r3, r4) := by first | (rw [hy392]; with_reducible exact H) | (have H2_ := (Option.bind_some _ _).symm.trans H; rw [hy392]; with_reducible exact H2_) | (have H2_ := (Option.bind_some _ _).symm.trans H; with_reducible exact H2_) | with_reducible exact H | (rw [hy392]; exact H) | exact H
      have Ny392 := Aside0.mk hy392
      clear hy392
      have H' := Aside0.mk H
      clear H
      have hnb14 := NB382_383.out
      have hnc14 := NB383_382.out
      have hnb15 := NB382_384.out
      have hnc15 := NB384_382.out
      have hcz16_0 : wr.cell? ⟨gb382, 0, none⟩ = some (.int .i64 a0_0) := (zqf BK382.out 0).trans rfl
      have hcz16_1 : wr.cell? ⟨gb382, 1, none⟩ = some (.string a0_1) := (zqf BK382.out 1).trans rfl
      have hcz16_2 : wr.cell? ⟨gb382, 2, none⟩ = some (.int .i64 a0_2) := (zqf BK382.out 2).trans rfl
      have hcz16_3 : wr.cell? ⟨gb382, 3, none⟩ = some (.slice A0_3 l0_3.length c0_3) := (zqf BK382.out 3).trans rfl
      have hfz16_0 := zqd BK382.out 0
      have hfz16_1 := zqd BK382.out 1
      have hfz16_2 := zqd BK382.out 2
      have hfz16_3 := zqd BK382.out 3
      try go_wp2
      have n0_ := Aside0.mk (Kd.R_drew HO_385003.out)
      have n1_ := Aside0.mk (zqi BK382.out)
      have n2_ := Aside0.mk (zqi BK383.out)
      have n3_ := Aside0.mk (zqi BK384.out)
      have n4_ := Aside0.mk (zqc HB.out)
      clear HO_385003
      clear BK382
      clear BK383
      clear BK384
      clear HB
      have HO_385003 := n0_
      have BK382 := n1_
      have BK383 := n2_
      have BK384 := n3_
      have HB := n4_
      clear n0_ n1_ n2_ n3_ n4_
      have p385 : 0 ≤ (x4_1 : Int) := of_decide_eq_true (by assumption)
      have q385 : x4_1 < (l0_3.length : Int) := of_decide_eq_true (by assumption)
      obtain ⟨ad385, A385_3, c385_3, e385, hx385_0, hx385_1, hx385_2, hx385_3, hl385_3, hi385_3⟩ := at_T26 HR0_3.out x4_1 p385 q385
      have hw385_3 := hx385_3
      have hw385_2 := hx385_2
      have hw385_1 := hx385_1
      have hw385_0 := hx385_0
      cases e385
      replace hx385_0 := (HB.out.cell (World.block_lt_of_cell? w _ hx385_0)).trans hx385_0
      replace hx385_1 := (HB.out.cell (World.block_lt_of_cell? w _ hx385_1)).trans hx385_1
      replace hx385_2 := (HB.out.cell (World.block_lt_of_cell? w _ hx385_2)).trans hx385_2
      replace hx385_3 := (HB.out.cell (World.block_lt_of_cell? w _ hx385_3)).trans hx385_3
      have HR385_3 := Aside0.mk hi385_3
      have HC385_3 := Aside0.mk hl385_3
      clear hi385_3 hl385_3
      replace p385 := eq_true p385
      replace q385 := eq_true q385
      refine start_ (n := 12) (S := fun w' => w'.cell? ⟨gb384, 0, none⟩ = some (.int .i64 a0_0) ∧ w'.cell? ⟨gb384, 1, none⟩ = some (.string a0_1) ∧ w'.cell? ⟨gb384, 2, none⟩ = some (.int .i64 a0_2) ∧ w'.cell? ⟨gb384, 3, none⟩ = some (u385003) ∧ w'.cell? ⟨gb382, 0, none⟩ = some (.int .i64 a0_0) ∧ w'.cell? ⟨gb382, 1, none⟩ = some (.string a0_1) ∧ w'.cell? ⟨gb382, 2, none⟩ = some (.int .i64 a0_2) ∧ w'.cell? ⟨gb382, 3, none⟩ = some (.slice (some ad385) l0_3.length c0_3) ∧ w'.cell? (ad385.add ((x4_1).toNat * 4)) = some (.int .i64 ((zqA l0_3 x4_1).f0)) ∧ w'.cell? ⟨(ad385.add ((x4_1).toNat * 4)).block, (ad385.add ((x4_1).toNat * 4)).off + 1, none⟩ = some (.string ((zqA l0_3 x4_1).f1)) ∧ w'.cell? ⟨(ad385.add ((x4_1).toNat * 4)).block, (ad385.add ((x4_1).toNat * 4)).off + 2, none⟩ = some (.int .i64 ((zqA l0_3 x4_1).f2)) ∧ w'.cell? ⟨(ad385.add ((x4_1).toNat * 4)).block, (ad385.add ((x4_1).toNat * 4)).off + 3, none⟩ = some (.slice A385_3 ((zqA l0_3 x4_1).f3).length c385_3)) (ds := [11]) #[false, false, false, false, false, false, false, false, false, false, false, false] (by kernel_rfl) rfl rfl ⟨(zqf BK384.out 0).trans rfl, (zqf BK384.out 1).trans rfl, (zqf BK384.out 2).trans rfl, (zqf BK384.out 3).trans rfl, (zqf BK382.out 0).trans rfl, (zqf BK382.out 1).trans rfl, (zqf BK382.out 2).trans rfl, (zqf BK382.out 3).trans rfl, ((HB.out.cell (World.block_lt_of_cell? w _ hw385_0)).trans hw385_0), ((HB.out.cell (World.block_lt_of_cell? w _ hw385_1)).trans hw385_1), ((HB.out.cell (World.block_lt_of_cell? w _ hw385_2)).trans hw385_2), ((HB.out.cell (World.block_lt_of_cell? w _ hw385_3)).trans hw385_3)⟩ (fun hHeld => ?_); refine with_tabW chancellaw05_refTerm.tab5 chancellaw05_refTerm.bits5 (fun HT_ HW_ => ?_)
      generalize wr.drew = w17 at HO_385003 BK382 BK383 BK384 HB HR385_3 hx385_0 hx385_1 hx385_2 hx385_3 hHeld ⊢
      refine pure_ (i := 0) (N := some 19) (v := ?_) (a' := ?_) #[true, false, false, false, false, false, false, false, false, false, false, false] rfl rfl (any_of HT_.out (by kernel_rfl)) (fun _ _ _ h => h) (Or.inl ⟨by rfl, ?_⟩) ?_ ?_
      rotate_left
      ·intro w'
       go_simp
       with_reducible rfl
      rotate_left
      ·simp only [Act.put, List.setIfInBounds_toArray, List.set_cons_zero, List.set_cons_succ, i64_w, i32_w]
       rfl
      refine pure_ (i := 2) (N := some 21) (v := ?_) (a' := ?_) #[true, false, true, false, false, false, false, false, false, false, false, false] rfl rfl (any_of HT_.out (by kernel_rfl)) (fun _ _ _ h => h) (Or.inl ⟨by rfl, ?_⟩) ?_ ?_
      rotate_left
      ·intro w'
       go_simp
       with_reducible rfl
      rotate_left
      ·simp only [Act.put, List.setIfInBounds_toArray, List.set_cons_zero, List.set_cons_succ, i64_w, i32_w]
       rfl
      refine pure_ (i := 4) (N := some 23) (v := ?_) (a' := ?_) #[true, false, true, false, true, false, false, false, false, false, false, false] rfl rfl (any_of HT_.out (by kernel_rfl)) (fun _ _ _ h => h) (Or.inl ⟨by rfl, ?_⟩) ?_ ?_
      rotate_left
      ·intro w'
       go_simp
       with_reducible rfl
      rotate_left
      ·simp only [Act.put, List.setIfInBounds_toArray, List.set_cons_zero, List.set_cons_succ, i64_w, i32_w]
       rfl
      refine take_ (i := 1) (N := some 20) (v := ?_) (a' := ?_) #[true, true, true, false, true, false, false, false, false, false, false, false] rfl rfl (take_ofW HT_.out HW_.out (by kernel_rfl)) (fun _ _ _ h => h) (Or.inl ⟨by rfl, ?_⟩) hHeld ?_ ?_
      rotate_left
      ·rintro w' ⟨s0, s1, s2, s3, s4, s5, s6, s7, s8, s9, s10, s11⟩
       go_simp
       with_reducible rfl
      rotate_left
      ·simp only [Act.put, List.setIfInBounds_toArray, List.set_cons_zero, List.set_cons_succ, i64_w, i32_w]
       rfl
      refine take_ (i := 3) (N := some 22) (v := ?_) (a' := ?_) #[true, true, true, true, true, false, false, false, false, false, false, false] rfl rfl (take_ofW HT_.out HW_.out (by kernel_rfl)) (fun _ _ _ h => h) (Or.inl ⟨by rfl, ?_⟩) hHeld ?_ ?_
      rotate_left
      ·rintro w' ⟨s0, s1, s2, s3, s4, s5, s6, s7, s8, s9, s10, s11⟩
       go_simp
       with_reducible rfl
      rotate_left
      ·simp only [Act.put, List.setIfInBounds_toArray, List.set_cons_zero, List.set_cons_succ, i64_w, i32_w]
       rfl
      refine pure_ (i := 5) (N := some 24) (v := ?_) (a' := ?_) #[true, true, true, true, true, true, false, false, false, false, false, false] rfl rfl (any_of HT_.out (by kernel_rfl)) (fun _ _ _ h => h) (Or.inl ⟨by rfl, ?_⟩) ?_ ?_
      rotate_left
      ·intro w'
       go_simp
       with_reducible rfl
      rotate_left
      ·simp only [Act.put, List.setIfInBounds_toArray, List.set_cons_zero, List.set_cons_succ, i64_w, i32_w]
       rfl
      refine take_ (i := 6) (N := some 25) (v := ?_) (a' := ?_) #[true, true, true, true, true, true, true, false, false, false, false, false] rfl rfl (take_ofW HT_.out HW_.out (by kernel_rfl)) (fun _ _ _ h => h) (Or.inl ⟨by rfl, ?_⟩) hHeld ?_ ?_
      rotate_left
      ·rintro w' ⟨s0, s1, s2, s3, s4, s5, s6, s7, s8, s9, s10, s11⟩
       go_simp
       with_reducible rfl
      rotate_left
      ·simp only [Act.put, List.setIfInBounds_toArray, List.set_cons_zero, List.set_cons_succ, i64_w, i32_w]
       rfl
      refine one_ (i := 7) (N := some 26) #[true, true, true, true, true, true, true, true, false, false, false, false] rfl rfl (one_of HT_.out (by kernel_rfl)) (by decide) (fun K hK => ?_)
      refine goes_ Tryz.func25 (by kernel_rfl) rfl #[.agg #[.int .i64 ((zqA l0_3 x4_1).f0), .string ((zqA l0_3 x4_1).f1), .int .i64 ((zqA l0_3 x4_1).f2), .slice A385_3 ((zqA l0_3 x4_1).f3).length c385_3]] (by rfl) rfl rfl (by (try simp only [List.map_toArray, List.map_cons, List.map_nil]); first | done | rfl | (simp only [List.length_drop, List.length_take]; rfl)) ?_
      with_reducible refine (ih k1 (by have := HK1.out; omega) ((zqA l0_3 x4_1).f0) ((zqA l0_3 x4_1).f1) ((zqA l0_3 x4_1).f2) _ _ ((zqA l0_3 x4_1).f3) t386 t387 t388 t389 _ ?side1 ?side2 A12.out).mono ?_
      (case side1 => repeat (first | exact (Kd.C_below HR385_3.out HB.out) | (with_reducible refine Kd.C_alloc ?_ _) | (with_reducible refine Kd.C_drewN ?_ _) | (with_reducible refine Kd.C_drew ?_)))
      (case side2 => exact HC385_3.out)
      rintro e w18 ⟨v390, rfl, ho0, hb⟩
      refine ⟨_, rfl, ?_⟩
      have n0_ := Aside0.mk (Kd.R_elder' (by (with_reducible repeat (first | apply Kd.R_alloc | apply Kd.R_drewN | apply Kd.R_drew)); exact HO_385003.out) (Kd.R_base ho0) hb)
      have n1_ := Aside0.mk (Kd.R_lower (Kd.R_newB (Kd.R_newB (Kd.R_new' ho0 (Kd.R_lt (by (with_reducible repeat (first | apply Kd.R_alloc | apply Kd.R_drewN | apply Kd.R_drew)); exact HO_385003.out))) (g := gb383) (o := .cells #[.int .i64 0, .string (⟨#[]⟩ : ByteArray), .int .i64 0, .slice none 0 0] 32 (0, 0)) (by (with_reducible repeat (first | apply zqg | apply zqi | apply zqe)); exact BK383.out)) (g := gb384) (o := .cells #[.int .i64 a0_0, .string a0_1, .int .i64 a0_2, u385003] 32 (0, 0)) (by (with_reducible repeat (first | apply zqg | apply zqi | apply zqe)); exact BK384.out)) (zqj (by repeat (first | (with_reducible first | exact HB.out | apply zqb | apply zqa | apply zqc | refine zqh ?_ GE382.out | refine zqh ?_ GE383.out | refine zqh ?_ GE384.out) | exact HB.out))))
      have n2_ := Aside0.mk (zqn (g := gb382) (o := .cells #[.int .i64 a0_0, .string a0_1, .int .i64 a0_2, .slice (some ad385) l0_3.length c0_3] 26 (0, 0)) (by (with_reducible repeat (first | apply zqg | apply zqi | apply zqe)); exact BK382.out) hb)
      have n3_ := Aside0.mk (zqn (g := gb383) (o := .cells #[.int .i64 0, .string (⟨#[]⟩ : ByteArray), .int .i64 0, .slice none 0 0] 32 (0, 0)) (by (with_reducible repeat (first | apply zqg | apply zqi | apply zqe)); exact BK383.out) hb)
      have n4_ := Aside0.mk (zqn (g := gb384) (o := .cells #[.int .i64 a0_0, .string a0_1, .int .i64 a0_2, u385003] 32 (0, 0)) (by (with_reducible repeat (first | apply zqg | apply zqi | apply zqe)); exact BK384.out) hb)
      have n5_ := Aside0.mk (zqk (by repeat (first | (with_reducible first | exact HB.out | apply zqb | apply zqa | apply zqc | refine zqh ?_ GE382.out | refine zqh ?_ GE383.out | refine zqh ?_ GE384.out) | exact HB.out)) hb)
      clear HO_385003
      clear BK382
      clear BK383
      clear BK384
      clear HB
      have HO_385003 := n0_
      have HO391 := n1_
      have BK382 := n2_
      have BK383 := n3_
      have BK384 := n4_
      have HB := n5_
      clear n0_ n1_ n2_ n3_ n4_ n5_
      (try clear hb)
      (try clear hb2)
      (try clear hk)
      (try clear hi)
      (try clear ho0)
      obtain ⟨Ao20, co20, eo20⟩ := Kd.R_slice HO391.out
      (first | subst eo20 | (injection eo20 with f1_ f2_ f3_; have f4_ := f1_.symm; have f5_ := f3_.symm; clear f1_ f2_ f3_; subst f4_; subst f5_))
      refine hK.out _ _ ⟨(zqf BK384.out 0).trans rfl, (zqf BK384.out 1).trans rfl, (zqf BK384.out 2).trans rfl, (zqf BK384.out 3).trans rfl, (zqf BK382.out 0).trans rfl, (zqf BK382.out 1).trans rfl, (zqf BK382.out 2).trans rfl, (zqf BK382.out 3).trans rfl, ((HB.out.cell (World.block_lt_of_cell? w _ hw385_0)).trans hw385_0), ((HB.out.cell (World.block_lt_of_cell? w _ hw385_1)).trans hw385_1), ((HB.out.cell (World.block_lt_of_cell? w _ hw385_2)).trans hw385_2), ((HB.out.cell (World.block_lt_of_cell? w _ hw385_3)).trans hw385_3)⟩ (fun hHeld => ?_)
      clear hK K
      refine norm_ (a' := ?_) ?_ ?_
      rotate_left
      ·show Act.put _ (some 26) _ = _
       simp only [Act.put, List.setIfInBounds_toArray, List.set_cons_zero, List.set_cons_succ, i64_w, i32_w]
       rfl
      refine one_ (i := 8) (N := some 27) #[true, true, true, true, true, true, true, true, true, false, false, false] rfl rfl (one_of HT_.out (by kernel_rfl)) (by decide) (fun K hK => ?_)
      refine value_ (w1 := ?_) (v := ?_) (by rfl) rfl ?_ ?_
      rotate_left 2
      ·go_simp
       constructor
       ·rfl
       ·rfl
      refine hK.out _ _ ⟨(zqf (zqe BK384.out _) 0).trans rfl, (zqf (zqe BK384.out _) 1).trans rfl, (zqf (zqe BK384.out _) 2).trans rfl, (zqf (zqe BK384.out _) 3).trans rfl, (zqf (zqe BK382.out _) 0).trans rfl, (zqf (zqe BK382.out _) 1).trans rfl, (zqf (zqe BK382.out _) 2).trans rfl, (zqf (zqe BK382.out _) 3).trans rfl, (World.cell?_alloc_lt _ _ _ (World.block_lt_of_cell? _ _ (((HB.out.cell (World.block_lt_of_cell? w _ hw385_0)).trans hw385_0)))).trans (((HB.out.cell (World.block_lt_of_cell? w _ hw385_0)).trans hw385_0)), (World.cell?_alloc_lt _ _ _ (World.block_lt_of_cell? _ _ (((HB.out.cell (World.block_lt_of_cell? w _ hw385_1)).trans hw385_1)))).trans (((HB.out.cell (World.block_lt_of_cell? w _ hw385_1)).trans hw385_1)), (World.cell?_alloc_lt _ _ _ (World.block_lt_of_cell? _ _ (((HB.out.cell (World.block_lt_of_cell? w _ hw385_2)).trans hw385_2)))).trans (((HB.out.cell (World.block_lt_of_cell? w _ hw385_2)).trans hw385_2)), (World.cell?_alloc_lt _ _ _ (World.block_lt_of_cell? _ _ (((HB.out.cell (World.block_lt_of_cell? w _ hw385_3)).trans hw385_3)))).trans (((HB.out.cell (World.block_lt_of_cell? w _ hw385_3)).trans hw385_3))⟩ (fun hHeld => ?_)
      clear hK K
      refine norm_ (a' := ?_) ?_ ?_
      rotate_left
      ·show Act.put _ (some 27) _ = _
       simp only [Act.put, List.setIfInBounds_toArray, List.set_cons_zero, List.set_cons_succ, i64_w, i32_w]
       rfl
      refine one_ (i := 9) (N := some 28) #[true, true, true, true, true, true, true, true, true, true, false, false] rfl rfl (one_of HT_.out (by kernel_rfl)) (by decide) (fun K hK => ?_)
      refine Kd.R_append_step k32 (w0 := w) w.heap.size (by rfl) (.tmp 20) (.tmp 27) 30 32 (.agg #[(.int .i64 0), (.string ⟨#[]⟩), (.int .i64 0), (.slice none 0 0)]) 56 rfl Tryz.underlying30 info32 rfl (by decide) (by omega) u385003 x385003_1 (⟨t386, t387, t388, t389⟩ : S32) [.int .i64 t386, .string t387, .int .i64 t388, .slice Ao20 t389.length co20] (fun k_ => k_ ≠ gb383 ∧ k_ ≠ gb384) (fun k_ => ((fun k_ => k_ ≠ gb383 ∧ k_ ≠ gb384)) k_ ∧ some k_ ≠ (u385003 : Value).ownBlock) rfl rfl ?aP (fun _ hk => hk) ?aF ?aO ?aB ?aS ?aL ?_
      (case aP => exact k32_mkM _ _ _ (⟨t386, t387, t388, t389⟩ : S32) (Kd.R_mono (HO391.out) (fun k_ hk => ⟨⟨hk.1.2, hk.2⟩, hk.1.1.2⟩)))
      (case aB => exact (by repeat (first | (with_reducible first | exact HB.out | apply zqb | apply zqa | apply zqc | refine zqh ?_ GE382.out | refine zqh ?_ GE383.out | refine zqh ?_ GE384.out) | exact HB.out)))
      (case aF => exact (fun k_ hk => ⟨Kd.freshB (g := gb383) (o := .cells #[.int .i64 0, .string (⟨#[]⟩ : ByteArray), .int .i64 0, .slice none 0 0] 32 (0, 0)) (by (with_reducible repeat (first | apply zqg | apply zqi | apply zqe)); exact BK383.out) k_ hk, Kd.freshB (g := gb384) (o := .cells #[.int .i64 a0_0, .string a0_1, .int .i64 a0_2, u385003] 32 (0, 0)) (by (with_reducible repeat (first | apply zqg | apply zqi | apply zqe)); exact BK384.out) k_ hk⟩))
      (case aO => exact (by (with_reducible repeat (first | apply Kd.R_alloc | apply Kd.R_drewN | apply Kd.R_drew)); exact Kd.R_mono HO_385003.out (fun _ hk => ⟨hk.1.1, hk.1.2⟩)))
      (case aS => exact (zqj (by repeat (first | (with_reducible first | exact HB.out | apply zqb | apply zqa | apply zqc | refine zqh ?_ GE382.out | refine zqh ?_ GE383.out | refine zqh ?_ GE384.out) | exact HB.out))))
      (case aL => have := LMc13.out; omega)
      intro v393 w19 ho hb hg hat
      rw [← Ny392.out] at ho
      have n0_ := Aside0.mk (blk_grown (g := gb382) (o := .cells #[.int .i64 a0_0, .string a0_1, .int .i64 a0_2, .slice (some ad385) l0_3.length c0_3] 26 (0, 0)) (by (with_reducible repeat (first | apply zqg | apply zqi | apply zqe)); exact BK382.out) hg (Kd.R_ne HO_385003.out BK382.out (by decide)))
      have n1_ := Aside0.mk (blk_grown (g := gb383) (o := .cells #[.int .i64 0, .string (⟨#[]⟩ : ByteArray), .int .i64 0, .slice none 0 0] 32 (0, 0)) (by (with_reducible repeat (first | apply zqg | apply zqi | apply zqe)); exact BK383.out) hg (Kd.R_away HO_385003.out (fun _ hk => hk.1.1)))
      have n2_ := Aside0.mk (blk_grown (g := gb384) (o := .cells #[.int .i64 a0_0, .string a0_1, .int .i64 a0_2, u385003] 32 (0, 0)) (by (with_reducible repeat (first | apply zqg | apply zqi | apply zqe)); exact BK384.out) hg (Kd.R_away HO_385003.out (fun _ hk => hk.1.2)))
      have n3_ := Aside0.mk (hb)
      have n4_ := Aside0.mk (ho)
      clear BK382
      clear BK383
      clear BK384
      clear HB
      clear HO_385003
      clear HO391
      have BK382 := n0_
      have BK383 := n1_
      have BK384 := n2_
      have HB := n3_
      have HO394 := n4_
      clear n0_ n1_ n2_ n3_ n4_
      clear ho hb hg hat
      obtain ⟨Ao21, co21, eo21⟩ := Kd.R_slice HO394.out
      (first | subst eo21 | (injection eo21 with f1_ f2_ f3_; have f4_ := f1_.symm; have f5_ := f3_.symm; clear f1_ f2_ f3_; subst f4_; subst f5_))
      refine hK.out _ _ ⟨(zqf BK384.out 0).trans rfl, (zqf BK384.out 1).trans rfl, (zqf BK384.out 2).trans rfl, (zqf BK384.out 3).trans rfl, (zqf BK382.out 0).trans rfl, (zqf BK382.out 1).trans rfl, (zqf BK382.out 2).trans rfl, (zqf BK382.out 3).trans rfl, ((HB.out.cell (World.block_lt_of_cell? w _ hw385_0)).trans hw385_0), ((HB.out.cell (World.block_lt_of_cell? w _ hw385_1)).trans hw385_1), ((HB.out.cell (World.block_lt_of_cell? w _ hw385_2)).trans hw385_2), ((HB.out.cell (World.block_lt_of_cell? w _ hw385_3)).trans hw385_3)⟩ (fun hHeld => ?_)
      clear hK K
      refine norm_ (a' := ?_) ?_ ?_
      rotate_left
      ·show Act.put _ (some 28) _ = _
       simp only [Act.put, List.setIfInBounds_toArray, List.set_cons_zero, List.set_cons_succ, i64_w, i32_w]
       rfl
      refine pure_ (i := 10) (N := some 29) (v := ?_) (a' := ?_) #[true, true, true, true, true, true, true, true, true, true, true, false] rfl rfl (any_of HT_.out (by kernel_rfl)) (fun _ _ _ h => h) (Or.inl ⟨by rfl, ?_⟩) ?_ ?_
      rotate_left
      ·intro w'
       go_simp
       with_reducible rfl
      rotate_left
      ·simp only [Act.put, List.setIfInBounds_toArray, List.set_cons_zero, List.set_cons_succ, i64_w, i32_w]
       rfl
      refine last_ (i := 11) (N := none) #[true, true, true, true, true, true, true, true, true, true, true, true] rfl rfl (one_of HT_.out (by kernel_rfl)) (by decide) (fun K hK => ?_)
      have hs22 : w19.cell? ⟨gb384, 3, none⟩ = some (u385003) := (zqf BK384.out 3).trans rfl
      have hfs22 := zqd BK384.out 3
      have hns22_0 := NB382_384.out
      have hns22_1 := NB383_384.out
      have hms22_0 := NB384_382.out
      have hms22_1 := NB384_383.out
      refine skip_ (w1 := ?_) (by rfl) rfl ?_ ?_
      rotate_left
      ·go_simp
       rfl
      refine hK.out _ _ ?_
      clear hK K
      refine done_ (done_of HT_.out (by kernel_rfl)) ?_
      try go_wp2
      go_roundg k1
      case measure => have := HK1.out; omega
      case rel => exact ⟨(wrap64 (x4_1 + 1)), (y392), (.slice Ao21 y392.length co21), (by first | rfl | (simp [*]; done)), H', ⟨by have := HK1.out; omega⟩, ⟨by (with_reducible repeat (first | apply Kd.R_alloc | apply Kd.R_drewN | apply Kd.R_drew)); exact Kd.R_mono (Kd.R_far (p := ⟨gb384, 3, none⟩) (Kd.R_mono HO394.out (fun k_ hk => (⟨hk, hk.2⟩ : _ ∧ k_ ≠ gb384))) (fun _ hk => hk.2) (.slice Ao21 y392.length co21)) (fun _ hk => ⟨hk.1.1, hk.1.2⟩)⟩, ⟨by (with_reducible repeat (first | apply zqg | apply zqi | apply zqe)); refine blk_far ?_ NB382_384.out _; (with_reducible repeat (first | apply zqg | apply zqi | apply zqe)); exact BK382.out⟩, ⟨by (with_reducible repeat (first | apply zqg | apply zqi | apply zqe)); refine blk_far ?_ NB383_384.out _; (with_reducible repeat (first | apply zqg | apply zqi | apply zqe)); exact BK383.out⟩, ⟨by (with_reducible repeat (first | apply zqg | apply zqi | apply zqe)); refine zqq (cs := #[.int .i64 a0_0, .string a0_1, .int .i64 a0_2, u385003]) ?_ 3 _ rfl; (with_reducible repeat (first | apply zqg | apply zqi | apply zqe)); exact BK384.out⟩, ⟨by repeat (first | (with_reducible first | exact HB.out | apply zqb | apply zqa | apply zqc | refine zqh ?_ GE382.out | refine zqh ?_ GE383.out | refine zqh ?_ GE384.out) | exact HB.out)⟩⟩
     ·rw [if_neg c13] at H
      exact absurd H (by simp)
    ·rw [if_neg c11] at H
     exact absurd H (by simp)
   ·rw [if_neg c10] at H
    have c10b0 : decide (x4_1 < (l0_3.length : Int)) = false := decide_eq_false c10
    clear c10
    simp only [Option.some.injEq, Prod.mk.injEq] at H
    obtain ⟨rfl, rfl, rfl, rfl⟩ := H
    have hnb23 := NB382_383.out
    have hnc23 := NB383_382.out
    have hnb24 := NB382_384.out
    have hnc24 := NB384_382.out
    have hcz25_0 : wr.cell? ⟨gb382, 0, none⟩ = some (.int .i64 a0_0) := (zqf BK382.out 0).trans rfl
    have hcz25_1 : wr.cell? ⟨gb382, 1, none⟩ = some (.string a0_1) := (zqf BK382.out 1).trans rfl
    have hcz25_2 : wr.cell? ⟨gb382, 2, none⟩ = some (.int .i64 a0_2) := (zqf BK382.out 2).trans rfl
    have hcz25_3 : wr.cell? ⟨gb382, 3, none⟩ = some (.slice A0_3 l0_3.length c0_3) := (zqf BK382.out 3).trans rfl
    have hfz25_0 := zqd BK382.out 0
    have hfz25_1 := zqd BK382.out 1
    have hfz25_2 := zqd BK382.out 2
    have hfz25_3 := zqd BK382.out 3
    have hnb26 := NB384_383.out
    have hnc26 := NB383_384.out
    have hcz27_0 : wr.cell? ⟨gb384, 0, none⟩ = some (.int .i64 a0_0) := (zqf BK384.out 0).trans rfl
    have hcz27_1 : wr.cell? ⟨gb384, 1, none⟩ = some (.string a0_1) := (zqf BK384.out 1).trans rfl
    have hcz27_2 : wr.cell? ⟨gb384, 2, none⟩ = some (.int .i64 a0_2) := (zqf BK384.out 2).trans rfl
    have hcz27_3 : wr.cell? ⟨gb384, 3, none⟩ = some (u385003) := (zqf BK384.out 3).trans rfl
    have hfz27_0 := zqd BK384.out 0
    have hfz27_1 := zqd BK384.out 1
    have hfz27_2 := zqd BK384.out 2
    have hfz27_3 := zqd BK384.out 3
    have hcz28_0 : wr.cell? ⟨gb383, 0, none⟩ = some (.int .i64 0) := (zqf BK383.out 0).trans rfl
    have hcz28_1 : wr.cell? ⟨gb383, 1, none⟩ = some (.string (⟨#[]⟩ : ByteArray)) := (zqf BK383.out 1).trans rfl
    have hcz28_2 : wr.cell? ⟨gb383, 2, none⟩ = some (.int .i64 0) := (zqf BK383.out 2).trans rfl
    have hcz28_3 : wr.cell? ⟨gb383, 3, none⟩ = some (.slice none 0 0) := (zqf BK383.out 3).trans rfl
    have hfz28_0 := zqd BK383.out 0
    have hfz28_1 := zqd BK383.out 1
    have hfz28_2 := zqd BK383.out 2
    have hfz28_3 := zqd BK383.out 3
    obtain ⟨Ao29, co29, eo29⟩ := Kd.R_slice HO_385003.out
    subst eo29
    go_wp2
    refine bodyPost_ret (results_cell_row rfl _ _ gb383 32 #[.int .i64 a0_0, .string a0_1, .int .i64 a0_2, .slice Ao29 x385003_1.length co29] (0, 0) _ rfl (by (with_reducible repeat (first | apply zqg | apply zqi | apply zqe)); refine zqq (cs := #[.int .i64 a0_0, .string a0_1, .int .i64 a0_2, .slice none 0 0]) ?_ 3 _ rfl; (with_reducible repeat (first | apply zqg | apply zqi | apply zqe)); refine zqq (cs := #[.int .i64 a0_0, .string a0_1, .int .i64 0, .slice none 0 0]) ?_ 2 _ rfl; (with_reducible repeat (first | apply zqg | apply zqi | apply zqe)); refine zqq (cs := #[.int .i64 a0_0, .string (⟨#[]⟩ : ByteArray), .int .i64 0, .slice none 0 0]) ?_ 1 _ rfl; (with_reducible repeat (first | apply zqg | apply zqi | apply zqe)); refine zqq (cs := #[.int .i64 0, .string (⟨#[]⟩ : ByteArray), .int .i64 0, .slice none 0 0]) ?_ 0 _ rfl; (with_reducible repeat (first | apply zqg | apply zqi | apply zqe)); exact BK383.out) Tryz.underlying32 rfl (by kernel_rfl)) rfl ?_
    exact ⟨_, by first | rfl | (simp [zqm, zql] <;> rfl) | (simp [*, zqm, zql] <;> rfl), by (with_reducible repeat (first | apply Kd.R_alloc | apply Kd.R_drewN | apply Kd.R_drew)); exact Kd.R_mono (Kd.R_far (p := ⟨gb383, 3, none⟩) (Kd.R_far (p := ⟨gb383, 2, none⟩) (Kd.R_far (p := ⟨gb383, 1, none⟩) (Kd.R_far (p := ⟨gb383, 0, none⟩) (Kd.R_mono HO_385003.out (fun k_ hk => (⟨hk, hk.1⟩ : _ ∧ k_ ≠ gb383))) (fun _ hk => hk.2) (.int .i64 a0_0)) (fun _ hk => hk.2) (.string a0_1)) (fun _ hk => hk.2) (.int .i64 a0_2)) (fun _ hk => hk.2) (.slice Ao29 x385003_1.length co29)) (fun _ hk => trivial), by repeat (first | (with_reducible first | exact HB.out | apply zqb | apply zqa | apply zqc | refine zqh ?_ GE382.out | refine zqh ?_ GE383.out | refine zqh ?_ GE384.out) | exact HB.out)⟩
end Go.Proofs.YtchekgnacodolaaGreatDoor.X
end

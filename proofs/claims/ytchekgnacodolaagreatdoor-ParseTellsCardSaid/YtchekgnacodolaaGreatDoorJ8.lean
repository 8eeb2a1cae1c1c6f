-- Joined by our own program (wip/tools/prune.py) out of the seat's texts, less what this claim doesn't name.
import Derived.Test.YtchekgnacodolaaGreatDoorJ6
import Derived.Test.YtchekgnacodolaaGreatDoorJ7
set_option maxHeartbeats 8000000
set_option maxRecDepth 100000
section
namespace Go.Proofs.YtchekgnacodolaaGreatDoor.X
open Go.RowKit Go.Proofs.YtchekgnacodolaaGreatDoorW.PrintWords Go.Proofs.YtchekgnacodolaaGreatDoorW.PrintLast Go.Proofs.YtchekgnacodolaaGreatDoorW.PrintMore
attribute [local go_sem] zqK zqL max_two min_two zqB zqC zqI zqJ
set_option linter.unusedVariables false
set_option linter.unusedSimpArgs false
def chancelref02_word.f (k : Nat) (a0 : ByteArray) : Option (Int × ByteArray × Int × Bool) := (chancelref02_Keyword.f k a0).bind fun t328 => (if t328 = true then (some (3, a0, 0, true)) else ((chancelref01_Name.f k a0).bind fun t329 => (if t329 = true then (some (1, a0, 0, true)) else ((chancelref02_Number.f k a0).bind fun bt330 => (some (2, a0, bt330.1, bt330.2))))))
theorem chancelref02_word.mono : ∀ a0 k, LeO (chancelref02_word.f k a0) (chancelref02_word.f (k + 1) a0) := by
 intro a0 k
 unfold chancelref02_word.f
 repeat' first
   | (with_reducible exact chancelref01_Name.mono _ _)
   | (with_reducible exact chancelref02_Keyword.mono _ _)
   | (with_reducible exact chancelref02_Number.mono _ _)
   | (with_reducible exact LeO.refl _)
   | (with_reducible exact LeO.none _)
   | (with_reducible refine LeO.ite ?_ ?_)
   | (with_reducible refine LeO.bind ?_ (fun _ => ?_))
   | exact chancelref01_Name.mono _ _
   | exact chancelref02_Keyword.mono _ _
   | exact chancelref02_Number.mono _ _
   | exact LeO.none _
   | refine LeO.ite ?_ ?_
   | refine LeO.bind ?_ (fun _ => ?_)
theorem chancelref02_word.calls (k : Nat) (a0 : ByteArray) (r1 : Int) (r2 : ByteArray) (r3 : Int) (r4 : Bool) (w : World) (h : chancelref02_word.f k a0 = some (r1, r2, r3, r4)) :
  Calls Tryz.prog 96 #[.string a0] w fun e w' => e = .returned (.tuple #[.agg #[.int .i64 r1, .string r2, .int .i64 r3], .bool r4]) ∧ Below w.heap.size w w' := by
 have hu107 := Tryz.underlying107
 have HB := Aside0.mk (Below.refl w.heap.size w)
 have H : ((chancelref02_Keyword.f k a0).bind fun t328 => (if t328 = true then (some (3, a0, 0, true)) else ((chancelref01_Name.f k a0).bind fun t329 => (if t329 = true then (some (1, a0, 0, true)) else ((chancelref02_Number.f k a0).bind fun bt330 => (some (2, a0, bt330.1, bt330.2))))))) = some (r1, r2, r3, r4) := h
 clear h
 replace H := Option.bind_eq_some_iff.mp H
 obtain ⟨t328, A20, H⟩ := H
 replace H : (if t328 = true then (some (3, a0, 0, true)) else ((chancelref01_Name.f k a0).bind fun t329 => (if t329 = true then (some (1, a0, 0, true)) else ((chancelref02_Number.f k a0).bind fun bt330 => (some (2, a0, bt330.1, bt330.2)))))) = some (r1, r2, r3, r4) := H
 have A2 := Aside0.mk A20
 clear A20
 by_cases c3 : t328 = true
 ·subst c3
  have H1 : (some (3, a0, 0, true)) = some (r1, r2, r3, r4) := by rw [if_pos rfl] at H; exact H
  clear H
  have H := H1
  clear H1
  simp only [Option.some.injEq, Prod.mk.injEq] at H
  obtain ⟨rfl, rfl, rfl, rfl⟩ := H
  go_enter Tryz.func96, Tryz.ntmps96
  go_wp2_with (first | ((with_reducible refine zqr (N := 2) rfl ?_); refine zqp ?hg (N := 2) ?hd (cs := #[.int .i64 0, .string (⟨#[]⟩ : ByteArray), .int .i64 0]) (t := 107) ?hr ?_; (case hd => rfl); (case hg => rfl); (case hr => first | (go_simp; done) | (go_simp; rfl)); intro gb327 hg w4 hbox hb; have n0_ := Aside0.mk (zqk (by repeat (first | exact HB.out | apply zqb | apply zqa | apply zqc)) hb); have n1_ := Aside0.mk (hbox); have n2_ := Aside0.mk ((by rw [hg]; exact (zqj (by repeat (first | exact HB.out | apply zqb | apply zqa | apply zqc))) : w.heap.size ≤ gb327)); have n3_ := Aside0.mk ((by rw [hg]; exact (zqj (by repeat (first | exact HB.out | apply zqb | apply zqa | apply zqc))) : w.heap.size ≤ gb327)); clear HB; have HB := n0_; have BK327 := n1_; have GW327 := n2_; have GE327 := n3_; clear n0_ n1_ n2_ n3_; clear hb hbox hg) | ((with_reducible refine zqo (f := 140) rfl ?_); refine zqD (some 7) rfl rfl Tryz.func140 (by kernel_rfl) rfl #[.string a0] rfl (by (try simp only [List.map_toArray, List.map_cons, List.map_nil]); first | done | rfl | (simp only [List.length_drop, List.length_take]; rfl)) ?_; (with_reducible refine (chancelref02_Keyword.calls k a0 true _ A2.out).mono ?_); rintro e w5 ⟨rfl, hb⟩; refine ⟨_, rfl, ?_⟩; have n0_ := Aside0.mk (zqn (g := gb327) (o := .cells #[.int .i64 0, .string (⟨#[]⟩ : ByteArray), .int .i64 0] 107 (0, 0)) (by (with_reducible repeat (first | apply zqg | apply zqi | apply zqe)); exact BK327.out) hb); have n1_ := Aside0.mk (zqk (by repeat (first | (with_reducible first | exact HB.out | apply zqb | apply zqa | apply zqc | refine zqh ?_ GE327.out) | exact HB.out)) hb); clear BK327; clear HB; have BK327 := n0_; have HB := n1_; clear n0_ n1_; (try clear hb); (try clear hb2); (try clear hk); (try clear hi); have hcz6_0 : w5.cell? ⟨gb327, 0, none⟩ = some (.int .i64 0) := (zqf BK327.out 0).trans rfl; have hcz6_1 : w5.cell? ⟨gb327, 1, none⟩ = some (.string (⟨#[]⟩ : ByteArray)) := (zqf BK327.out 1).trans rfl; have hcz6_2 : w5.cell? ⟨gb327, 2, none⟩ = some (.int .i64 0) := (zqf BK327.out 2).trans rfl; have hfz6_0 := zqd BK327.out 0; have hfz6_1 := zqd BK327.out 1; have hfz6_2 := zqd BK327.out 2))
  refine bodyPost_ret (results_ct rfl _ _ gb327 107 #[.int .i64 3, .string a0, .int .i64 0] (0, 0) _ rfl (by (with_reducible repeat (first | apply zqg | apply zqi | apply zqe)); refine zqq (cs := #[.int .i64 3, .string a0, .int .i64 0]) ?_ 2 _ rfl; (with_reducible repeat (first | apply zqg | apply zqi | apply zqe)); refine zqq (cs := #[.int .i64 3, .string (⟨#[]⟩ : ByteArray), .int .i64 0]) ?_ 1 _ rfl; (with_reducible repeat (first | apply zqg | apply zqi | apply zqe)); refine zqq (cs := #[.int .i64 0, .string (⟨#[]⟩ : ByteArray), .int .i64 0]) ?_ 0 _ rfl; (with_reducible repeat (first | apply zqg | apply zqi | apply zqe)); exact BK327.out) Tryz.underlying107 rfl (by kernel_rfl)) rfl ?_
  exact ⟨by first | rfl | (simp [zqm, zql] <;> rfl) | (simp [*, zqm, zql] <;> rfl), by repeat (first | (with_reducible first | exact HB.out | apply zqb | apply zqa | apply zqc | refine zqh ?_ GE327.out) | exact HB.out)⟩
 ·replace c3 := Bool.eq_false_iff.mpr c3
  subst c3
  have H1 : ((chancelref01_Name.f k a0).bind fun t329 => (if t329 = true then (some (1, a0, 0, true)) else ((chancelref02_Number.f k a0).bind fun bt330 => (some (2, a0, bt330.1, bt330.2))))) = some (r1, r2, r3, r4) := by rw [if_neg (show ¬ (false = true) by decide)] at H; exact H
  clear H
  have H := H1
  clear H1
  replace H := Option.bind_eq_some_iff.mp H
  obtain ⟨t329, A70, H⟩ := H
  replace H : (if t329 = true then (some (1, a0, 0, true)) else ((chancelref02_Number.f k a0).bind fun bt330 => (some (2, a0, bt330.1, bt330.2)))) = some (r1, r2, r3, r4) := H
  have A7 := Aside0.mk A70
  clear A70
  by_cases c8 : t329 = true
  ·subst c8
   have H1 : (some (1, a0, 0, true)) = some (r1, r2, r3, r4) := by rw [if_pos rfl] at H; exact H
   clear H
   have H := H1
   clear H1
   simp only [Option.some.injEq, Prod.mk.injEq] at H
   obtain ⟨rfl, rfl, rfl, rfl⟩ := H
   go_enter Tryz.func96, Tryz.ntmps96
   go_wp2_with (first | ((with_reducible refine zqr (N := 2) rfl ?_); refine zqp ?hg (N := 2) ?hd (cs := #[.int .i64 0, .string (⟨#[]⟩ : ByteArray), .int .i64 0]) (t := 107) ?hr ?_; (case hd => rfl); (case hg => rfl); (case hr => first | (go_simp; done) | (go_simp; rfl)); intro gb327 hg w9 hbox hb; have n0_ := Aside0.mk (zqk (by repeat (first | exact HB.out | apply zqb | apply zqa | apply zqc)) hb); have n1_ := Aside0.mk (hbox); have n2_ := Aside0.mk ((by rw [hg]; exact (zqj (by repeat (first | exact HB.out | apply zqb | apply zqa | apply zqc))) : w.heap.size ≤ gb327)); have n3_ := Aside0.mk ((by rw [hg]; exact (zqj (by repeat (first | exact HB.out | apply zqb | apply zqa | apply zqc))) : w.heap.size ≤ gb327)); clear HB; have HB := n0_; have BK327 := n1_; have GW327 := n2_; have GE327 := n3_; clear n0_ n1_ n2_ n3_; clear hb hbox hg) | ((with_reducible refine zqo (f := 140) rfl ?_); refine zqD (some 7) rfl rfl Tryz.func140 (by kernel_rfl) rfl #[.string a0] rfl (by (try simp only [List.map_toArray, List.map_cons, List.map_nil]); first | done | rfl | (simp only [List.length_drop, List.length_take]; rfl)) ?_; (with_reducible refine (chancelref02_Keyword.calls k a0 false _ A2.out).mono ?_); rintro e w10 ⟨rfl, hb⟩; refine ⟨_, rfl, ?_⟩; have n0_ := Aside0.mk (zqn (g := gb327) (o := .cells #[.int .i64 0, .string (⟨#[]⟩ : ByteArray), .int .i64 0] 107 (0, 0)) (by (with_reducible repeat (first | apply zqg | apply zqi | apply zqe)); exact BK327.out) hb); have n1_ := Aside0.mk (zqk (by repeat (first | (with_reducible first | exact HB.out | apply zqb | apply zqa | apply zqc | refine zqh ?_ GE327.out) | exact HB.out)) hb); clear BK327; clear HB; have BK327 := n0_; have HB := n1_; clear n0_ n1_; (try clear hb); (try clear hb2); (try clear hk); (try clear hi)) | ((with_reducible refine zqo (f := 139) rfl ?_); refine zqD (some 11) rfl rfl Tryz.func139 (by kernel_rfl) rfl #[.string a0] rfl (by (try simp only [List.map_toArray, List.map_cons, List.map_nil]); first | done | rfl | (simp only [List.length_drop, List.length_take]; rfl)) ?_; (with_reducible refine (chancelref01_Name.calls k a0 true _ A7.out).mono ?_); rintro e w' ⟨rfl, ⟨nd, rfl⟩⟩; refine ⟨_, rfl, ?_⟩; (try (rw [drewN_self w10]; generalize hq_ : World.drewN w10 _ = w10; have n0_ : Aside0 (w10.heap[gb327]? = some (.cells #[.int .i64 0, .string (⟨#[]⟩ : ByteArray), .int .i64 0] 107 (0, 0))) := ⟨by rw [← hq_]; exact (by (with_reducible repeat (first | apply zqg | apply zqi | apply zqe)); exact BK327.out)⟩; have n1_ : Aside0 (Below w.heap.size w w10) := ⟨by rw [← hq_]; exact (by repeat (first | (with_reducible first | exact HB.out | apply zqb | apply zqa | apply zqc | refine zqh ?_ GE327.out) | exact HB.out))⟩; clear BK327 HB hq_; have BK327 := n0_; have HB := n1_; clear n0_ n1_)); have hcz11_0 : w10.cell? ⟨gb327, 0, none⟩ = some (.int .i64 0) := (zqf BK327.out 0).trans rfl; have hcz11_1 : w10.cell? ⟨gb327, 1, none⟩ = some (.string (⟨#[]⟩ : ByteArray)) := (zqf BK327.out 1).trans rfl; have hcz11_2 : w10.cell? ⟨gb327, 2, none⟩ = some (.int .i64 0) := (zqf BK327.out 2).trans rfl; have hfz11_0 := zqd BK327.out 0; have hfz11_1 := zqd BK327.out 1; have hfz11_2 := zqd BK327.out 2))
   refine bodyPost_ret (results_ct rfl _ _ gb327 107 #[.int .i64 1, .string a0, .int .i64 0] (0, 0) _ rfl (by (with_reducible repeat (first | apply zqg | apply zqi | apply zqe)); refine zqq (cs := #[.int .i64 1, .string a0, .int .i64 0]) ?_ 2 _ rfl; (with_reducible repeat (first | apply zqg | apply zqi | apply zqe)); refine zqq (cs := #[.int .i64 1, .string (⟨#[]⟩ : ByteArray), .int .i64 0]) ?_ 1 _ rfl; (with_reducible repeat (first | apply zqg | apply zqi | apply zqe)); refine zqq (cs := #[.int .i64 0, .string (⟨#[]⟩ : ByteArray), .int .i64 0]) ?_ 0 _ rfl; (with_reducible repeat (first | apply zqg | apply zqi | apply zqe)); exact BK327.out) Tryz.underlying107 rfl (by kernel_rfl)) rfl ?_
   exact ⟨by first | rfl | (simp [zqm, zql] <;> rfl) | (simp [*, zqm, zql] <;> rfl), by repeat (first | (with_reducible first | exact HB.out | apply zqb | apply zqa | apply zqc | refine zqh ?_ GE327.out) | exact HB.out)⟩
  ·replace c8 := Bool.eq_false_iff.mpr c8
   subst c8
   have H1 : ((chancelref02_Number.f k a0).bind fun bt330 => (some (2, a0, bt330.1, bt330.2))) = some (r1, r2, r3, r4) := by rw [if_neg (show ¬ (false = true) by decide)] at H; exact H
   clear H
   have H := H1
   clear H1
   replace H := Option.bind_eq_some_iff.mp H
   obtain ⟨⟨t330, t331⟩, A120, H⟩ := H
   replace H : (some (2, a0, t330, t331)) = some (r1, r2, r3, r4) := H
   have A12 := Aside0.mk A120
   clear A120
   simp only [Option.some.injEq, Prod.mk.injEq] at H
   obtain ⟨rfl, rfl, rfl, rfl⟩ := H
   go_enter Tryz.func96, Tryz.ntmps96
   go_wp2_with (first | ((with_reducible refine zqr (N := 2) rfl ?_); refine zqp ?hg (N := 2) ?hd (cs := #[.int .i64 0, .string (⟨#[]⟩ : ByteArray), .int .i64 0]) (t := 107) ?hr ?_; (case hd => rfl); (case hg => rfl); (case hr => first | (go_simp; done) | (go_simp; rfl)); intro gb327 hg w13 hbox hb; have n0_ := Aside0.mk (zqk (by repeat (first | exact HB.out | apply zqb | apply zqa | apply zqc)) hb); have n1_ := Aside0.mk (hbox); have n2_ := Aside0.mk ((by rw [hg]; exact (zqj (by repeat (first | exact HB.out | apply zqb | apply zqa | apply zqc))) : w.heap.size ≤ gb327)); have n3_ := Aside0.mk ((by rw [hg]; exact (zqj (by repeat (first | exact HB.out | apply zqb | apply zqa | apply zqc))) : w.heap.size ≤ gb327)); clear HB; have HB := n0_; have BK327 := n1_; have GW327 := n2_; have GE327 := n3_; clear n0_ n1_ n2_ n3_; clear hb hbox hg) | ((with_reducible refine zqo (f := 140) rfl ?_); refine zqD (some 7) rfl rfl Tryz.func140 (by kernel_rfl) rfl #[.string a0] rfl (by (try simp only [List.map_toArray, List.map_cons, List.map_nil]); first | done | rfl | (simp only [List.length_drop, List.length_take]; rfl)) ?_; (with_reducible refine (chancelref02_Keyword.calls k a0 false _ A2.out).mono ?_); rintro e w14 ⟨rfl, hb⟩; refine ⟨_, rfl, ?_⟩; have n0_ := Aside0.mk (zqn (g := gb327) (o := .cells #[.int .i64 0, .string (⟨#[]⟩ : ByteArray), .int .i64 0] 107 (0, 0)) (by (with_reducible repeat (first | apply zqg | apply zqi | apply zqe)); exact BK327.out) hb); have n1_ := Aside0.mk (zqk (by repeat (first | (with_reducible first | exact HB.out | apply zqb | apply zqa | apply zqc | refine zqh ?_ GE327.out) | exact HB.out)) hb); clear BK327; clear HB; have BK327 := n0_; have HB := n1_; clear n0_ n1_; (try clear hb); (try clear hb2); (try clear hk); (try clear hi)) | ((with_reducible refine zqo (f := 139) rfl ?_); refine zqD (some 11) rfl rfl Tryz.func139 (by kernel_rfl) rfl #[.string a0] rfl (by (try simp only [List.map_toArray, List.map_cons, List.map_nil]); first | done | rfl | (simp only [List.length_drop, List.length_take]; rfl)) ?_; (with_reducible refine (chancelref01_Name.calls k a0 false _ A7.out).mono ?_); rintro e w' ⟨rfl, ⟨nd, rfl⟩⟩; refine ⟨_, rfl, ?_⟩; (try (rw [drewN_self w14]; generalize hq_ : World.drewN w14 _ = w14; have n0_ : Aside0 (w14.heap[gb327]? = some (.cells #[.int .i64 0, .string (⟨#[]⟩ : ByteArray), .int .i64 0] 107 (0, 0))) := ⟨by rw [← hq_]; exact (by (with_reducible repeat (first | apply zqg | apply zqi | apply zqe)); exact BK327.out)⟩; have n1_ : Aside0 (Below w.heap.size w w14) := ⟨by rw [← hq_]; exact (by repeat (first | (with_reducible first | exact HB.out | apply zqb | apply zqa | apply zqc | refine zqh ?_ GE327.out) | exact HB.out))⟩; clear BK327 HB hq_; have BK327 := n0_; have HB := n1_; clear n0_ n1_))) | ((with_reducible refine zqo (f := 141) rfl ?_); refine zqD (some 16) rfl rfl Tryz.func141 (by kernel_rfl) rfl #[.string a0] rfl (by (try simp only [List.map_toArray, List.map_cons, List.map_nil]); first | done | rfl | (simp only [List.length_drop, List.length_take]; rfl)) ?_; (with_reducible refine (chancelref02_Number.calls k a0 t330 t331 _ A12.out).mono ?_); rintro e w15 ⟨rfl, hb⟩; refine ⟨_, rfl, ?_⟩; have n0_ := Aside0.mk (zqn (g := gb327) (o := .cells #[.int .i64 0, .string (⟨#[]⟩ : ByteArray), .int .i64 0] 107 (0, 0)) (by (with_reducible repeat (first | apply zqg | apply zqi | apply zqe)); exact BK327.out) hb); have n1_ := Aside0.mk (zqk (by repeat (first | (with_reducible first | exact HB.out | apply zqb | apply zqa | apply zqc | refine zqh ?_ GE327.out) | exact HB.out)) hb); clear BK327; clear HB; have BK327 := n0_; have HB := n1_; clear n0_ n1_; (try clear hb); (try clear hb2); (try clear hk); (try clear hi); have hcz16_0 : w15.cell? ⟨gb327, 0, none⟩ = some (.int .i64 0) := (zqf BK327.out 0).trans rfl; have hcz16_1 : w15.cell? ⟨gb327, 1, none⟩ = some (.string (⟨#[]⟩ : ByteArray)) := (zqf BK327.out 1).trans rfl; have hcz16_2 : w15.cell? ⟨gb327, 2, none⟩ = some (.int .i64 0) := (zqf BK327.out 2).trans rfl; have hfz16_0 := zqd BK327.out 0; have hfz16_1 := zqd BK327.out 1; have hfz16_2 := zqd BK327.out 2))
   refine bodyPost_ret (results_ct rfl _ _ gb327 107 #[.int .i64 2, .string a0, .int .i64 t330] (0, 0) _ rfl (by (with_reducible repeat (first | apply zqg | apply zqi | apply zqe)); refine zqq (cs := #[.int .i64 2, .string a0, .int .i64 0]) ?_ 2 _ rfl; (with_reducible repeat (first | apply zqg | apply zqi | apply zqe)); refine zqq (cs := #[.int .i64 2, .string (⟨#[]⟩ : ByteArray), .int .i64 0]) ?_ 1 _ rfl; (with_reducible repeat (first | apply zqg | apply zqi | apply zqe)); refine zqq (cs := #[.int .i64 0, .string (⟨#[]⟩ : ByteArray), .int .i64 0]) ?_ 0 _ rfl; (with_reducible repeat (first | apply zqg | apply zqi | apply zqe)); exact BK327.out) Tryz.underlying107 rfl (by kernel_rfl)) rfl ?_
   exact ⟨by first | rfl | (simp [zqm, zql] <;> rfl) | (simp [*, zqm, zql] <;> rfl), by repeat (first | (with_reducible first | exact HB.out | apply zqb | apply zqa | apply zqc | refine zqh ?_ GE327.out) | exact HB.out)⟩
end Go.Proofs.YtchekgnacodolaaGreatDoor.X
end
section
namespace Go.Proofs.YtchekgnacodolaaGreatDoor.X
open Go.RowKit Go.Proofs.YtchekgnacodolaaGreatDoorW.PrintWords Go.Proofs.YtchekgnacodolaaGreatDoorW.PrintLast Go.Proofs.YtchekgnacodolaaGreatDoorW.PrintMore
attribute [local go_sem] zqK zqL max_two min_two zqB zqC zqI zqJ
set_option linter.unusedVariables false
set_option linter.unusedSimpArgs false
def chancelref02_marks.f  : Option (List ByteArray) := some (([(⟨#[61, 62]⟩ : ByteArray), (⟨#[58, 61]⟩ : ByteArray), (⟨#[40]⟩ : ByteArray), (⟨#[41]⟩ : ByteArray), (⟨#[59]⟩ : ByteArray), (⟨#[58]⟩ : ByteArray), (⟨#[61]⟩ : ByteArray), (⟨#[33]⟩ : ByteArray), (⟨#[43]⟩ : ByteArray), (⟨#[45]⟩ : ByteArray), (⟨#[42]⟩ : ByteArray), (⟨#[60]⟩ : ByteArray), (⟨#[46]⟩ : ByteArray)] : List ByteArray))
theorem chancelref02_marks.calls  (r : List ByteArray) (w : World) (h : chancelref02_marks.f  = some r) :
  Calls Tryz.prog 143 #[] w fun e w' => ∃ v0_ : Value, e = .returned (v0_) ∧ Kd.R Kd.string 9 w' w.heap.size (fun _ => True) v0_ r ∧ Below w.heap.size w w' := by
 have HB := Aside0.mk (Below.refl w.heap.size w)
 have H : (some (([(⟨#[61, 62]⟩ : ByteArray), (⟨#[58, 61]⟩ : ByteArray), (⟨#[40]⟩ : ByteArray), (⟨#[41]⟩ : ByteArray), (⟨#[59]⟩ : ByteArray), (⟨#[58]⟩ : ByteArray), (⟨#[61]⟩ : ByteArray), (⟨#[33]⟩ : ByteArray), (⟨#[43]⟩ : ByteArray), (⟨#[45]⟩ : ByteArray), (⟨#[42]⟩ : ByteArray), (⟨#[60]⟩ : ByteArray), (⟨#[46]⟩ : ByteArray)] : List ByteArray))) = some r := h
 clear h
 obtain ⟨y253, hy253⟩ : ∃ y_ : List ByteArray, y_ = (([(⟨#[61, 62]⟩ : ByteArray), (⟨#[58, 61]⟩ : ByteArray), (⟨#[40]⟩ : ByteArray), (⟨#[41]⟩ : ByteArray), (⟨#[59]⟩ : ByteArray), (⟨#[58]⟩ : ByteArray), (⟨#[61]⟩ : ByteArray), (⟨#[33]⟩ : ByteArray), (⟨#[43]⟩ : ByteArray), (⟨#[45]⟩ : ByteArray), (⟨#[42]⟩ : ByteArray), (⟨#[60]⟩ : ByteArray), (⟨#[46]⟩ : ByteArray)] : List ByteArray)) := ⟨_, rfl⟩
 replace H : (some y253) = some r := by first | (rw [hy253]; with_reducible exact H) | (have H2_ := (Option.bind_some _ _).symm.trans H; rw [hy253]; with_reducible exact H2_) | (have H2_ := (Option.bind_some _ _).symm.trans H; with_reducible exact H2_) | with_reducible exact H | (rw [hy253]; exact H) | exact H
 have Ny253 := Aside0.mk hy253
 clear hy253
 obtain rfl := Option.some.inj H
 go_enter Tryz.func143, Tryz.ntmps143
 go_wp2_with (first | ((with_reducible refine zqr (N := 1) rfl ?_); refine Kd.R_lit Kd.string _ 9 ?hg (N := 1) ?hd (xs := ([(⟨#[61, 62]⟩ : ByteArray), (⟨#[58, 61]⟩ : ByteArray), (⟨#[40]⟩ : ByteArray), (⟨#[41]⟩ : ByteArray), (⟨#[59]⟩ : ByteArray), (⟨#[58]⟩ : ByteArray), (⟨#[61]⟩ : ByteArray), (⟨#[33]⟩ : ByteArray), (⟨#[43]⟩ : ByteArray), (⟨#[45]⟩ : ByteArray), (⟨#[42]⟩ : ByteArray), (⟨#[60]⟩ : ByteArray), (⟨#[46]⟩ : ByteArray)] : List ByteArray)) (inner := [.string (⟨#[61, 62]⟩ : ByteArray), .string (⟨#[58, 61]⟩ : ByteArray), .string (⟨#[40]⟩ : ByteArray), .string (⟨#[41]⟩ : ByteArray), .string (⟨#[59]⟩ : ByteArray), .string (⟨#[58]⟩ : ByteArray), .string (⟨#[61]⟩ : ByteArray), .string (⟨#[33]⟩ : ByteArray), .string (⟨#[43]⟩ : ByteArray), .string (⟨#[45]⟩ : ByteArray), .string (⟨#[42]⟩ : ByteArray), .string (⟨#[60]⟩ : ByteArray), .string (⟨#[46]⟩ : ByteArray)]) (ok := fun _ => True) (okp := fun _ => True) ?hr ?hp (fun _ hk => hk) trivial (Below.refl _ _) (Nat.le_refl _) (by simp) ?_; (case hd => rfl); (case hg => rfl); (case hr => first | (go_simp; done) | (go_simp; rfl)); (case hp => exact (Reps.one (show Kd.M Kd.string _ _ _ (⟨#[61, 62]⟩ : ByteArray) [.string (⟨#[61, 62]⟩ : ByteArray)] from rfl) (Reps.one (show Kd.M Kd.string _ _ _ (⟨#[58, 61]⟩ : ByteArray) [.string (⟨#[58, 61]⟩ : ByteArray)] from rfl) (Reps.one (show Kd.M Kd.string _ _ _ (⟨#[40]⟩ : ByteArray) [.string (⟨#[40]⟩ : ByteArray)] from rfl) (Reps.one (show Kd.M Kd.string _ _ _ (⟨#[41]⟩ : ByteArray) [.string (⟨#[41]⟩ : ByteArray)] from rfl) (Reps.one (show Kd.M Kd.string _ _ _ (⟨#[59]⟩ : ByteArray) [.string (⟨#[59]⟩ : ByteArray)] from rfl) (Reps.one (show Kd.M Kd.string _ _ _ (⟨#[58]⟩ : ByteArray) [.string (⟨#[58]⟩ : ByteArray)] from rfl) (Reps.one (show Kd.M Kd.string _ _ _ (⟨#[61]⟩ : ByteArray) [.string (⟨#[61]⟩ : ByteArray)] from rfl) (Reps.one (show Kd.M Kd.string _ _ _ (⟨#[33]⟩ : ByteArray) [.string (⟨#[33]⟩ : ByteArray)] from rfl) (Reps.one (show Kd.M Kd.string _ _ _ (⟨#[43]⟩ : ByteArray) [.string (⟨#[43]⟩ : ByteArray)] from rfl) (Reps.one (show Kd.M Kd.string _ _ _ (⟨#[45]⟩ : ByteArray) [.string (⟨#[45]⟩ : ByteArray)] from rfl) (Reps.one (show Kd.M Kd.string _ _ _ (⟨#[42]⟩ : ByteArray) [.string (⟨#[42]⟩ : ByteArray)] from rfl) (Reps.one (show Kd.M Kd.string _ _ _ (⟨#[60]⟩ : ByteArray) [.string (⟨#[60]⟩ : ByteArray)] from rfl) (Reps.one (show Kd.M Kd.string _ _ _ (⟨#[46]⟩ : ByteArray) [.string (⟨#[46]⟩ : ByteArray)] from rfl) (Reps.none _ _))))))))))))))); intro v254 w1 ho2 hb hg_ hnew_; clear hg_ hnew_; (first | rw [← Ny253.out] at ho2 | (simp only [Int.reduceToNat] at ho2; rw [← Ny253.out] at ho2)); have n0_ := Aside0.mk (Kd.R_lower ho2 (zqj (by repeat (first | exact HB.out | apply zqb | apply zqa | apply zqc)))); have n1_ := Aside0.mk (zqk (by repeat (first | exact HB.out | apply zqb | apply zqa | apply zqc)) hb); clear HB; have HO255 := n0_; have HB := n1_; clear n0_ n1_; clear hb ho2))
 go_ret
 exact ⟨_, by first | rfl | (simp [zqm, zql] <;> rfl) | (simp [*, zqm, zql] <;> rfl), by (with_reducible repeat (first | apply Kd.R_alloc | apply Kd.R_drewN | apply Kd.R_drew)); exact HO255.out, by repeat (first | exact HB.out | apply zqb | apply zqa | apply zqc)⟩
end Go.Proofs.YtchekgnacodolaaGreatDoor.X
end
section
namespace Go.Proofs.YtchekgnacodolaaGreatDoor.X
open Go.RowKit Go.Proofs.YtchekgnacodolaaGreatDoorW.PrintWords Go.Proofs.YtchekgnacodolaaGreatDoorW.PrintLast Go.Proofs.YtchekgnacodolaaGreatDoorW.PrintMore
attribute [local go_sem] zqK zqL max_two min_two zqB zqC zqI zqJ
set_option linter.unusedVariables false
set_option linter.unusedSimpArgs false
def chancelref02_mark.l0 : Nat → ByteArray → List ByteArray → Int → Option (ByteArray)
 | 0, _, _, _ => none
 | k + 1, x0, x3, x4 => if x4 < (x3.length : Int) then (if 0 ≤ x4 then (if (x0.size : Int) ≥ ((rdOf ByteArray.empty x3 x4).size : Int) then (if 0 ≤ ((rdOf ByteArray.empty x3 x4).size : Int) then (if ((rdOf ByteArray.empty x3 x4).size : Int) ≤ (x0.size : Int) then (if (x0.extract 0 (((rdOf ByteArray.empty x3 x4).size : Int) : Int).toNat).toList = (rdOf ByteArray.empty x3 x4).toList then (some (rdOf ByteArray.empty x3 x4)) else (chancelref02_mark.l0 k x0 x3 (wrap64 (x4 + 1)))) else (none)) else (none)) else (chancelref02_mark.l0 k x0 x3 (wrap64 (x4 + 1)))) else (none)) else (some (⟨#[]⟩ : ByteArray))
def chancelref02_mark.f (k : Nat) (a0 : ByteArray) : Option (ByteArray) := (chancelref02_marks.f).bind fun t332 => (chancelref02_mark.l0 k a0 t332 0)
theorem chancelref02_mark.mono_l : ∀ k, (∀ y0 y1 y2, LeO (chancelref02_mark.l0 k y0 y1 y2) (chancelref02_mark.l0 (k + 1) y0 y1 y2))
 | 0 => fun _ _ _ r h => by simp [chancelref02_mark.l0] at h
 | k + 1 => by
  have ih0 := chancelref02_mark.mono_l k
  ·intro y0 y1 y2
   unfold chancelref02_mark.l0
   repeat' first
   | (with_reducible exact ih0 _ _ _)
   | (with_reducible exact LeO.refl _)
   | (with_reducible exact LeO.none _)
   | (with_reducible refine LeO.ite ?_ ?_)
   | (with_reducible refine LeO.bind ?_ (fun _ => ?_))
   | exact ih0 _ _ _
   | exact LeO.none _
   | refine LeO.ite ?_ ?_
   | refine LeO.bind ?_ (fun _ => ?_)
theorem chancelref02_mark.mono : ∀ a0 k, LeO (chancelref02_mark.f k a0) (chancelref02_mark.f (k + 1) a0) := by
 intro a0 k
 have ih0 := chancelref02_mark.mono_l k
 unfold chancelref02_mark.f
 repeat' first
   | (with_reducible exact ih0 _ _ _)
   | (with_reducible exact LeO.refl _)
   | (with_reducible exact LeO.none _)
   | (with_reducible refine LeO.ite ?_ ?_)
   | (with_reducible refine LeO.bind ?_ (fun _ => ?_))
   | exact ih0 _ _ _
   | exact LeO.none _
   | refine LeO.ite ?_ ?_
   | refine LeO.bind ?_ (fun _ => ?_)
theorem chancelref02_mark.calls (k : Nat) (a0 : ByteArray) (r : ByteArray) (w : World) (h : chancelref02_mark.f k a0 = some r) :
  Calls Tryz.prog 97 #[.string a0] w fun e w' => e = .returned (.string r) ∧ Below w.heap.size w w' := by
 have HB := Aside0.mk (Below.refl w.heap.size w)
 have H : ((chancelref02_marks.f).bind fun t332 => (chancelref02_mark.l0 k a0 t332 0)) = some r := h
 clear h
 replace H := Option.bind_eq_some_iff.mp H
 obtain ⟨t332, A20, H⟩ := H
 replace H : (chancelref02_mark.l0 k a0 t332 0) = some r := H
 have A2 := Aside0.mk A20
 clear A20
 have H' := Aside0.mk H
 clear H
 go_enter Tryz.func97, Tryz.ntmps97
 go_wp2_with (first | (go_at_call 143; (with_reducible refine (chancelref02_marks.calls  t332 _ A2.out).mono ?_); rintro e w3 ⟨v333, rfl, ho0, hb⟩; have n0_ := Aside0.mk (Kd.R_lower ho0 (zqj (by repeat (first | exact HB.out | apply zqb | apply zqa | apply zqc)))); have n1_ := Aside0.mk (zqk (by repeat (first | exact HB.out | apply zqb | apply zqa | apply zqc)) hb); clear HB; have HO334 := n0_; have HB := n1_; clear n0_ n1_; (try clear hb); (try clear hb2); (try clear hk); (try clear hi); (try clear ho0)))
 repeat (go_quiet (first | (go_at_call 143; (with_reducible refine (chancelref02_marks.calls  t332 _ A2.out).mono ?_); rintro e w3 ⟨v333, rfl, ho0, hb⟩; have n0_ := Aside0.mk (Kd.R_lower ho0 (zqj (by repeat (first | exact HB.out | apply zqb | apply zqa | apply zqc)))); have n1_ := Aside0.mk (zqk (by repeat (first | exact HB.out | apply zqb | apply zqa | apply zqc)) hb); clear HB; have HO334 := n0_; have HB := n1_; clear n0_ n1_; (try clear hb); (try clear hb2); (try clear hk); (try clear hi); (try clear ho0))); try go_wp2_with (first | (go_at_call 143; (with_reducible refine (chancelref02_marks.calls  t332 _ A2.out).mono ?_); rintro e w3 ⟨v333, rfl, ho0, hb⟩; have n0_ := Aside0.mk (Kd.R_lower ho0 (zqj (by repeat (first | exact HB.out | apply zqb | apply zqa | apply zqc)))); have n1_ := Aside0.mk (zqk (by repeat (first | exact HB.out | apply zqb | apply zqa | apply zqc)) hb); clear HB; have HO334 := n0_; have HB := n1_; clear n0_ n1_; (try clear hb); (try clear hb2); (try clear hk); (try clear hi); (try clear ho0))))
 go_loopg [4] k (fun kq v4 w' => ∃ (x4_1 : Int), v4 = .int .i64 x4_1 ∧ Aside0 (chancelref02_mark.l0 kq a0 t332 x4_1 = some r) ∧ Aside0 (kq ≤ k) ∧ Aside0 (Kd.R Kd.string 9 w' w.heap.size (fun _ => True) v333 t332) ∧ Aside0 (Below w.heap.size w w'))
 case atStart => exact ⟨(0), (by first | rfl | (simp [*]; done)), H', ⟨Nat.le_refl _⟩, ⟨by (with_reducible repeat (first | apply Kd.R_alloc | apply Kd.R_drewN | apply Kd.R_drew)); exact HO334.out⟩, ⟨by repeat (first | exact HB.out | apply zqb | apply zqa | apply zqc)⟩⟩
 case round =>
  clear H'
  try clear p2
  obtain ⟨x4_1, rfl, HA, HK1, HO_3, HB⟩ := hrel
  cases gk with
  | zero => exact absurd HA.out (by simp [chancelref02_mark.l0])
  | succ k1 =>
   have H := HA.out
   clear HA
   simp only [chancelref02_mark.l0] at H
   by_cases c4 : x4_1 < (t332.length : Int)
   ·rw [if_pos c4] at H
    have c4b0 : decide (x4_1 < (t332.length : Int)) = true := decide_eq_true c4
    clear c4
    by_cases c5 : 0 ≤ x4_1
    ·rw [if_pos c5] at H
     have c5b0 : decide (0 ≤ x4_1) = true := decide_eq_true c5
     clear c5
     by_cases c6 : (a0.size : Int) ≥ ((rdOf ByteArray.empty t332 x4_1).size : Int)
     ·rw [if_pos c6] at H
      have c6b0 : decide (((rdOf ByteArray.empty t332 x4_1).size : Int) ≤ (a0.size : Int)) = true := decide_eq_true c6
      have c6b1 : decide ((rdOf ByteArray.empty t332 x4_1).size ≤ a0.size) = true := decide_eq_true (Int.ofNat_le.mp c6)
      clear c6
      by_cases c7 : 0 ≤ ((rdOf ByteArray.empty t332 x4_1).size : Int)
      ·rw [if_pos c7] at H
       have c7b0 := eq_true c7
       have c7b1 : decide (0 ≤ ((rdOf ByteArray.empty t332 x4_1).size : Int)) = true := decide_eq_true c7
       clear c7
       by_cases c8 : ((rdOf ByteArray.empty t332 x4_1).size : Int) ≤ (a0.size : Int)
       ·rw [if_pos c8] at H
        have c8b0 := eq_true c8
        have c8b1 : decide (((rdOf ByteArray.empty t332 x4_1).size : Int) ≤ (a0.size : Int)) = true := decide_eq_true c8
        clear c8
        by_cases c9 : (a0.extract 0 (((rdOf ByteArray.empty t332 x4_1).size : Int) : Int).toNat).toList = (rdOf ByteArray.empty t332 x4_1).toList
        ·rw [if_pos c9] at H
         have c9b0 : ((a0.extract 0 (((rdOf ByteArray.empty t332 x4_1).size : Int) : Int).toNat).toList == (rdOf ByteArray.empty t332 x4_1).toList) = true := beq_iff_eq.mpr c9
         (try simp only [Int.toNat_natCast] at c9b0)
         have c9b1 : ((a0.extract 0 (((rdOf ByteArray.empty t332 x4_1).size : Int) : Int).toNat).toList != (rdOf ByteArray.empty t332 x4_1).toList) = false := bne_eq_false_iff_eq.mpr c9
         (try simp only [Int.toNat_natCast] at c9b1)
         clear c9
         obtain rfl := Option.some.inj H
         obtain ⟨Ao10, co10, eo10⟩ := Kd.R_slice HO_3.out
         subst eo10
         have p335 : 0 ≤ (x4_1 : Int) := of_decide_eq_true (by assumption)
         have q335 : x4_1 < (t332.length : Int) := of_decide_eq_true (by assumption)
         obtain ⟨ad335, e335, hx335_0⟩ := Kd.at_string (Kd.R_reads' HO_3.out).2.2 x4_1 p335 q335
         cases e335
         replace p335 := eq_true p335
         replace q335 := eq_true q335
         have p336 : 0 ≤ (x4_1 : Int) := of_decide_eq_true (by assumption)
         have q336 : x4_1 < (t332.length : Int) := of_decide_eq_true (by assumption)
         obtain ⟨ad336, e336, hx336_0⟩ := Kd.at_string (Kd.R_reads' HO_3.out).2.2 x4_1 p336 q336
         obtain rfl : ad335 = ad336 := (by injection e336)
         replace p336 := eq_true p336
         replace q336 := eq_true q336
         have p337 : 0 ≤ (x4_1 : Int) := of_decide_eq_true (by assumption)
         have q337 : x4_1 < (t332.length : Int) := of_decide_eq_true (by assumption)
         obtain ⟨ad337, e337, hx337_0⟩ := Kd.at_string (Kd.R_reads' HO_3.out).2.2 x4_1 p337 q337
         obtain rfl : ad335 = ad337 := (by injection e337)
         replace p337 := eq_true p337
         replace q337 := eq_true q337
         have p338 : 0 ≤ (x4_1 : Int) := of_decide_eq_true (by assumption)
         have q338 : x4_1 < (t332.length : Int) := of_decide_eq_true (by assumption)
         obtain ⟨ad338, e338, hx338_0⟩ := Kd.at_string (Kd.R_reads' HO_3.out).2.2 x4_1 p338 q338
         obtain rfl : ad335 = ad338 := (by injection e338)
         replace p338 := eq_true p338
         replace q338 := eq_true q338
         go_wp2
         repeat (go_quiet (fail); try go_wp2)
         go_ret
         exact ⟨by first | rfl | (simp [zqm, zql] <;> rfl) | (simp [*, zqm, zql] <;> rfl), by repeat (first | exact HB.out | apply zqb | apply zqa | apply zqc)⟩
        ·rw [if_neg c9] at H
         have c9b0 : ((a0.extract 0 (((rdOf ByteArray.empty t332 x4_1).size : Int) : Int).toNat).toList == (rdOf ByteArray.empty t332 x4_1).toList) = false := beq_eq_false_iff_ne.mpr c9
         (try simp only [Int.toNat_natCast] at c9b0)
         have c9b1 : ((a0.extract 0 (((rdOf ByteArray.empty t332 x4_1).size : Int) : Int).toNat).toList != (rdOf ByteArray.empty t332 x4_1).toList) = true := bne_iff_ne.mpr c9
         (try simp only [Int.toNat_natCast] at c9b1)
         have H' := Aside0.mk H
         clear H
         obtain ⟨Ao11, co11, eo11⟩ := Kd.R_slice HO_3.out
         subst eo11
         have p335 : 0 ≤ (x4_1 : Int) := of_decide_eq_true (by assumption)
         have q335 : x4_1 < (t332.length : Int) := of_decide_eq_true (by assumption)
         obtain ⟨ad335, e335, hx335_0⟩ := Kd.at_string (Kd.R_reads' HO_3.out).2.2 x4_1 p335 q335
         cases e335
         replace p335 := eq_true p335
         replace q335 := eq_true q335
         have p336 : 0 ≤ (x4_1 : Int) := of_decide_eq_true (by assumption)
         have q336 : x4_1 < (t332.length : Int) := of_decide_eq_true (by assumption)
         obtain ⟨ad336, e336, hx336_0⟩ := Kd.at_string (Kd.R_reads' HO_3.out).2.2 x4_1 p336 q336
         obtain rfl : ad335 = ad336 := (by injection e336)
         replace p336 := eq_true p336
         replace q336 := eq_true q336
         have p337 : 0 ≤ (x4_1 : Int) := of_decide_eq_true (by assumption)
         have q337 : x4_1 < (t332.length : Int) := of_decide_eq_true (by assumption)
         obtain ⟨ad337, e337, hx337_0⟩ := Kd.at_string (Kd.R_reads' HO_3.out).2.2 x4_1 p337 q337
         obtain rfl : ad335 = ad337 := (by injection e337)
         replace p337 := eq_true p337
         replace q337 := eq_true q337
         go_wp2
         repeat (go_quiet (fail); try go_wp2)
         go_roundg k1
         case measure => have := HK1.out; omega
         case rel => exact ⟨(wrap64 (x4_1 + 1)), (by first | rfl | (simp [*]; done)), H', ⟨by have := HK1.out; omega⟩, ⟨by (with_reducible repeat (first | apply Kd.R_alloc | apply Kd.R_drewN | apply Kd.R_drew)); exact HO_3.out⟩, ⟨by repeat (first | exact HB.out | apply zqb | apply zqa | apply zqc)⟩⟩
       ·rw [if_neg c8] at H
        exact absurd H (by simp)
      ·rw [if_neg c7] at H
       exact absurd H (by simp)
     ·rw [if_neg c6] at H
      have c6b0 : decide (((rdOf ByteArray.empty t332 x4_1).size : Int) ≤ (a0.size : Int)) = false := decide_eq_false c6
      have c6b1 : decide ((rdOf ByteArray.empty t332 x4_1).size ≤ a0.size) = false := decide_eq_false (fun h => c6 (Int.ofNat_le.mpr h))
      clear c6
      have H' := Aside0.mk H
      clear H
      obtain ⟨Ao12, co12, eo12⟩ := Kd.R_slice HO_3.out
      subst eo12
      have p335 : 0 ≤ (x4_1 : Int) := of_decide_eq_true (by assumption)
      have q335 : x4_1 < (t332.length : Int) := of_decide_eq_true (by assumption)
      obtain ⟨ad335, e335, hx335_0⟩ := Kd.at_string (Kd.R_reads' HO_3.out).2.2 x4_1 p335 q335
      cases e335
      replace p335 := eq_true p335
      replace q335 := eq_true q335
      go_wp2
      repeat (go_quiet (fail); try go_wp2)
      go_roundg k1
      case measure => have := HK1.out; omega
      case rel => exact ⟨(wrap64 (x4_1 + 1)), (by first | rfl | (simp [*]; done)), H', ⟨by have := HK1.out; omega⟩, ⟨by (with_reducible repeat (first | apply Kd.R_alloc | apply Kd.R_drewN | apply Kd.R_drew)); exact HO_3.out⟩, ⟨by repeat (first | exact HB.out | apply zqb | apply zqa | apply zqc)⟩⟩
    ·rw [if_neg c5] at H
     exact absurd H (by simp)
   ·rw [if_neg c4] at H
    have c4b0 : decide (x4_1 < (t332.length : Int)) = false := decide_eq_false c4
    clear c4
    obtain rfl := Option.some.inj H
    obtain ⟨Ao13, co13, eo13⟩ := Kd.R_slice HO_3.out
    subst eo13
    go_wp2
    repeat (go_quiet (fail); try go_wp2)
    go_ret
    exact ⟨by first | rfl | (simp [zqm, zql] <;> rfl) | (simp [*, zqm, zql] <;> rfl), by repeat (first | exact HB.out | apply zqb | apply zqa | apply zqc)⟩
end Go.Proofs.YtchekgnacodolaaGreatDoor.X
end

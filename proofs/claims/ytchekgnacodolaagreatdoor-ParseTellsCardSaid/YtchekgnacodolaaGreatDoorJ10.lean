-- Joined by our own program (wip/tools/prune.py) out of the seat's texts, less what this claim doesn't name.
import Derived.Test.YtchekgnacodolaaGreatDoorJ6
import Derived.Test.YtchekgnacodolaaGreatDoorJ7
import Derived.Test.YtchekgnacodolaaGreatDoorJ8
set_option maxHeartbeats 8000000
set_option maxRecDepth 100000
section
namespace Go.Proofs.YtchekgnacodolaaGreatDoor.X
open Go.RowKit Go.Proofs.YtchekgnacodolaaGreatDoorW.PrintWords Go.Proofs.YtchekgnacodolaaGreatDoorW.PrintLast Go.Proofs.YtchekgnacodolaaGreatDoorW.PrintMore
attribute [local go_sem] zqK zqL max_two min_two zqB zqC zqI zqJ
set_option linter.unusedVariables false
set_option linter.unusedSimpArgs false
def chancelref02_right.f (k : Nat) (a0_0 : Int) (a0_1 : ByteArray) (a0_2 : Int) : Option (Bool) := if a0_0 = 1 then ((chancelref01_Name.f k a0_1).bind fun t257 => (if t257 = true then ((chancelref02_Keyword.f k a0_1).bind fun t258 => (if t258 = true then (some false) else (some (a0_2 == 0)))) else (some false))) else (if a0_0 = 2 then ((chancelref02_Number.f k a0_1).bind fun bt259 => (if bt259.2 = true then (some (bt259.1 == a0_2)) else (some false))) else (if a0_0 = 3 then ((chancelref02_Keyword.f k a0_1).bind fun t261 => (if t261 = true then (some (a0_2 == 0)) else (some false))) else (if a0_0 = 4 then ((chancelref02_marks.f).bind fun t262 => ((chancelref02_Has.f k t262 a0_1).bind fun t265 => (if t265 = true then (some (a0_2 == 0)) else (some false)))) else (some false))))
theorem chancelref02_right.mono : ∀ a0 a1 a2 k, LeO (chancelref02_right.f k a0 a1 a2) (chancelref02_right.f (k + 1) a0 a1 a2) := by
 intro a0 a1 a2 k
 unfold chancelref02_right.f
 repeat' first
   | (with_reducible exact chancelref01_Name.mono _ _)
   | (with_reducible exact chancelref02_Has.mono _ _ _)
   | (with_reducible exact chancelref02_Keyword.mono _ _)
   | (with_reducible exact chancelref02_Number.mono _ _)
   | (with_reducible exact LeO.refl _)
   | (with_reducible exact LeO.none _)
   | (with_reducible refine LeO.ite ?_ ?_)
   | (with_reducible refine LeO.bind ?_ (fun _ => ?_))
   | exact chancelref01_Name.mono _ _
   | exact chancelref02_Has.mono _ _ _
   | exact chancelref02_Keyword.mono _ _
   | exact chancelref02_Number.mono _ _
   | exact LeO.none _
   | refine LeO.ite ?_ ?_
   | refine LeO.bind ?_ (fun _ => ?_)
def chancelref02_right.T10 : Bool × List (List Nat × List Nat) := (true, [([], []), ([], []), ([1], [1]), ([0, 2, 0], [0, 2]), ([3, 3], [3]), ([4], [4]), ([5, 4], [4, 5]), ([6, 4], [4, 6]), ([4, 7], [4, 7]), ([8, 4, 0, 1, 2, 3, 4, 5, 6, 7, 8], [8])])
def chancelref02_right.B10 : List Nat := [0, 0, 2, 7, 15, 31, 63, 127, 255, 511]
theorem chancelref02_right.tab10 : rtab .any (opsOf Tryz.f90 10) = chancelref02_right.T10 := by kernel_rfl
theorem chancelref02_right.bits10 : waitsOk chancelref02_right.T10.2 chancelref02_right.B10 = true := by kernel_rfl
theorem chancelref02_right.calls (k : Nat) (a0_0 : Int) (a0_1 : ByteArray) (a0_2 : Int) (r : Bool) (w : World) (h : chancelref02_right.f k a0_0 a0_1 a0_2 = some r) :
  Calls Tryz.prog 90 #[.agg #[.int .i64 a0_0, .string a0_1, .int .i64 a0_2]] w fun e w' => e = .returned (.bool r) ∧ Below w.heap.size w w' := by
 have hu107 := Tryz.underlying107
 have HB := Aside0.mk (Below.refl w.heap.size w)
 have H : (if a0_0 = 1 then ((chancelref01_Name.f k a0_1).bind fun t257 => (if t257 = true then ((chancelref02_Keyword.f k a0_1).bind fun t258 => (if t258 = true then (some false) else (some (a0_2 == 0)))) else (some false))) else (if a0_0 = 2 then ((chancelref02_Number.f k a0_1).bind fun bt259 => (if bt259.2 = true then (some (bt259.1 == a0_2)) else (some false))) else (if a0_0 = 3 then ((chancelref02_Keyword.f k a0_1).bind fun t261 => (if t261 = true then (some (a0_2 == 0)) else (some false))) else (if a0_0 = 4 then ((chancelref02_marks.f).bind fun t262 => ((chancelref02_Has.f k t262 a0_1).bind fun t265 => (if t265 = true then (some (a0_2 == 0)) else (some false)))) else (some false))))) = some r := h
 clear h
 by_cases c2 : a0_0 = 1
 ·rw [if_pos c2] at H
  have c2b0 : (a0_0 == 1) = true := beq_iff_eq.mpr c2
  have c2b1 : (a0_0 != 1) = false := bne_eq_false_iff_eq.mpr c2
  clear c2
  replace H := Option.bind_eq_some_iff.mp H
  obtain ⟨t257, A30, H⟩ := H
  replace H : (if t257 = true then ((chancelref02_Keyword.f k a0_1).bind fun t258 => (if t258 = true then (some false) else (some (a0_2 == 0)))) else (some false)) = some r := H
  have A3 := Aside0.mk A30
  clear A30
  by_cases c4 : t257 = true
  ·subst c4
   have H1 : ((chancelref02_Keyword.f k a0_1).bind fun t258 => (if t258 = true then (some false) else (some (a0_2 == 0)))) = some r := by rw [if_pos rfl] at H; exact H
   clear H
   have H := H1
   clear H1
   replace H := Option.bind_eq_some_iff.mp H
   obtain ⟨t258, A50, H⟩ := H
   replace H : (if t258 = true then (some false) else (some (a0_2 == 0))) = some r := H
   have A5 := Aside0.mk A50
   clear A50
   by_cases c6 : t258 = true
   ·subst c6
    have H1 : (some false) = some r := by rw [if_pos rfl] at H; exact H
    clear H
    have H := H1
    clear H1
    obtain rfl := Option.some.inj H
    go_enter Tryz.func90, Tryz.ntmps90
    go_wp2_with (first | ((with_reducible refine zqr (N := 1) rfl ?_); refine zqp ?hg (N := 1) ?hd (cs := #[.int .i64 a0_0, .string a0_1, .int .i64 a0_2]) (t := 107) ?hr ?_; (case hd => rfl); (case hg => rfl); (case hr => first | (go_simp; done) | (go_simp; rfl)); intro gb256 hg w7 hbox hb; have n0_ := Aside0.mk (zqk (by repeat (first | exact HB.out | apply zqb | apply zqa | apply zqc)) hb); have n1_ := Aside0.mk (hbox); have n2_ := Aside0.mk ((by rw [hg]; exact (zqj (by repeat (first | exact HB.out | apply zqb | apply zqa | apply zqc))) : w.heap.size ≤ gb256)); have n3_ := Aside0.mk ((by rw [hg]; exact (zqj (by repeat (first | exact HB.out | apply zqb | apply zqa | apply zqc))) : w.heap.size ≤ gb256)); clear HB; have HB := n0_; have BK256 := n1_; have GW256 := n2_; have GE256 := n3_; clear n0_ n1_ n2_ n3_; clear hb hbox hg; have hcz8_0 : w7.cell? ⟨gb256, 0, none⟩ = some (.int .i64 a0_0) := (zqf BK256.out 0).trans rfl; have hcz8_1 : w7.cell? ⟨gb256, 1, none⟩ = some (.string a0_1) := (zqf BK256.out 1).trans rfl; have hcz8_2 : w7.cell? ⟨gb256, 2, none⟩ = some (.int .i64 a0_2) := (zqf BK256.out 2).trans rfl; have hfz8_0 := zqd BK256.out 0; have hfz8_1 := zqd BK256.out 1; have hfz8_2 := zqd BK256.out 2) | ((with_reducible refine zqo (f := 139) rfl ?_); refine zqD (some 11) rfl rfl Tryz.func139 (by kernel_rfl) rfl #[.string a0_1] rfl (by (try simp only [List.map_toArray, List.map_cons, List.map_nil]); first | done | rfl | (simp only [List.length_drop, List.length_take]; rfl)) ?_; (with_reducible refine (chancelref01_Name.calls k a0_1 true _ A3.out).mono ?_); rintro e w' ⟨rfl, ⟨nd, rfl⟩⟩; refine ⟨_, rfl, ?_⟩) | (go_at_call 140; (with_reducible refine (chancelref02_Keyword.calls k a0_1 true _ A5.out).mono ?_); rintro e w9 ⟨rfl, hb⟩; have n0_ := Aside0.mk (zqn (g := gb256) (o := .cells #[.int .i64 a0_0, .string a0_1, .int .i64 a0_2] 107 (0, 0)) (by (with_reducible repeat (first | apply zqg | apply zqi | apply zqe)); exact BK256.out) hb); have n1_ := Aside0.mk (zqk (by repeat (first | (with_reducible first | exact HB.out | apply zqb | apply zqa | apply zqc | refine zqh ?_ GE256.out) | exact HB.out)) hb); clear BK256; clear HB; have BK256 := n0_; have HB := n1_; clear n0_ n1_; (try clear hb); (try clear hb2); (try clear hk); (try clear hi)))
    go_ret
    exact ⟨by first | rfl | (simp [zqm, zql] <;> rfl) | (simp [*, zqm, zql] <;> rfl), by repeat (first | (with_reducible first | exact HB.out | apply zqb | apply zqa | apply zqc | refine zqh ?_ GE256.out) | exact HB.out)⟩
   ·replace c6 := Bool.eq_false_iff.mpr c6
    subst c6
    have H1 : (some (a0_2 == 0)) = some r := by rw [if_neg (show ¬ (false = true) by decide)] at H; exact H
    clear H
    have H := H1
    clear H1
    obtain rfl := Option.some.inj H
    go_enter Tryz.func90, Tryz.ntmps90
    go_wp2_with (first | ((with_reducible refine zqr (N := 1) rfl ?_); refine zqp ?hg (N := 1) ?hd (cs := #[.int .i64 a0_0, .string a0_1, .int .i64 a0_2]) (t := 107) ?hr ?_; (case hd => rfl); (case hg => rfl); (case hr => first | (go_simp; done) | (go_simp; rfl)); intro gb256 hg w10 hbox hb; have n0_ := Aside0.mk (zqk (by repeat (first | exact HB.out | apply zqb | apply zqa | apply zqc)) hb); have n1_ := Aside0.mk (hbox); have n2_ := Aside0.mk ((by rw [hg]; exact (zqj (by repeat (first | exact HB.out | apply zqb | apply zqa | apply zqc))) : w.heap.size ≤ gb256)); have n3_ := Aside0.mk ((by rw [hg]; exact (zqj (by repeat (first | exact HB.out | apply zqb | apply zqa | apply zqc))) : w.heap.size ≤ gb256)); clear HB; have HB := n0_; have BK256 := n1_; have GW256 := n2_; have GE256 := n3_; clear n0_ n1_ n2_ n3_; clear hb hbox hg; have hcz11_0 : w10.cell? ⟨gb256, 0, none⟩ = some (.int .i64 a0_0) := (zqf BK256.out 0).trans rfl; have hcz11_1 : w10.cell? ⟨gb256, 1, none⟩ = some (.string a0_1) := (zqf BK256.out 1).trans rfl; have hcz11_2 : w10.cell? ⟨gb256, 2, none⟩ = some (.int .i64 a0_2) := (zqf BK256.out 2).trans rfl; have hfz11_0 := zqd BK256.out 0; have hfz11_1 := zqd BK256.out 1; have hfz11_2 := zqd BK256.out 2) | ((with_reducible refine zqo (f := 139) rfl ?_); refine zqD (some 11) rfl rfl Tryz.func139 (by kernel_rfl) rfl #[.string a0_1] rfl (by (try simp only [List.map_toArray, List.map_cons, List.map_nil]); first | done | rfl | (simp only [List.length_drop, List.length_take]; rfl)) ?_; (with_reducible refine (chancelref01_Name.calls k a0_1 true _ A3.out).mono ?_); rintro e w' ⟨rfl, ⟨nd, rfl⟩⟩; refine ⟨_, rfl, ?_⟩) | (go_at_call 140; (with_reducible refine (chancelref02_Keyword.calls k a0_1 false _ A5.out).mono ?_); rintro e w12 ⟨rfl, hb⟩; have n0_ := Aside0.mk (zqn (g := gb256) (o := .cells #[.int .i64 a0_0, .string a0_1, .int .i64 a0_2] 107 (0, 0)) (by (with_reducible repeat (first | apply zqg | apply zqi | apply zqe)); exact BK256.out) hb); have n1_ := Aside0.mk (zqk (by repeat (first | (with_reducible first | exact HB.out | apply zqb | apply zqa | apply zqc | refine zqh ?_ GE256.out) | exact HB.out)) hb); clear BK256; clear HB; have BK256 := n0_; have HB := n1_; clear n0_ n1_; (try clear hb); (try clear hb2); (try clear hk); (try clear hi); have hcz13_0 : w12.cell? ⟨gb256, 0, none⟩ = some (.int .i64 a0_0) := (zqf BK256.out 0).trans rfl; have hcz13_1 : w12.cell? ⟨gb256, 1, none⟩ = some (.string a0_1) := (zqf BK256.out 1).trans rfl; have hcz13_2 : w12.cell? ⟨gb256, 2, none⟩ = some (.int .i64 a0_2) := (zqf BK256.out 2).trans rfl; have hfz13_0 := zqd BK256.out 0; have hfz13_1 := zqd BK256.out 1; have hfz13_2 := zqd BK256.out 2))
    go_ret
    exact ⟨by first | rfl | (simp [zqm, zql] <;> rfl) | (simp [*, zqm, zql] <;> rfl), by repeat (first | (with_reducible first | exact HB.out | apply zqb | apply zqa | apply zqc | refine zqh ?_ GE256.out) | exact HB.out)⟩
  ·replace c4 := Bool.eq_false_iff.mpr c4
   subst c4
   have H1 : (some false) = some r := by rw [if_neg (show ¬ (false = true) by decide)] at H; exact H
   clear H
   have H := H1
   clear H1
   obtain rfl := Option.some.inj H
   go_enter Tryz.func90, Tryz.ntmps90
   go_wp2_with (first | ((with_reducible refine zqr (N := 1) rfl ?_); refine zqp ?hg (N := 1) ?hd (cs := #[.int .i64 a0_0, .string a0_1, .int .i64 a0_2]) (t := 107) ?hr ?_; (case hd => rfl); (case hg => rfl); (case hr => first | (go_simp; done) | (go_simp; rfl)); intro gb256 hg w14 hbox hb; have n0_ := Aside0.mk (zqk (by repeat (first | exact HB.out | apply zqb | apply zqa | apply zqc)) hb); have n1_ := Aside0.mk (hbox); have n2_ := Aside0.mk ((by rw [hg]; exact (zqj (by repeat (first | exact HB.out | apply zqb | apply zqa | apply zqc))) : w.heap.size ≤ gb256)); have n3_ := Aside0.mk ((by rw [hg]; exact (zqj (by repeat (first | exact HB.out | apply zqb | apply zqa | apply zqc))) : w.heap.size ≤ gb256)); clear HB; have HB := n0_; have BK256 := n1_; have GW256 := n2_; have GE256 := n3_; clear n0_ n1_ n2_ n3_; clear hb hbox hg; have hcz15_0 : w14.cell? ⟨gb256, 0, none⟩ = some (.int .i64 a0_0) := (zqf BK256.out 0).trans rfl; have hcz15_1 : w14.cell? ⟨gb256, 1, none⟩ = some (.string a0_1) := (zqf BK256.out 1).trans rfl; have hcz15_2 : w14.cell? ⟨gb256, 2, none⟩ = some (.int .i64 a0_2) := (zqf BK256.out 2).trans rfl; have hfz15_0 := zqd BK256.out 0; have hfz15_1 := zqd BK256.out 1; have hfz15_2 := zqd BK256.out 2) | ((with_reducible refine zqo (f := 139) rfl ?_); refine zqD (some 11) rfl rfl Tryz.func139 (by kernel_rfl) rfl #[.string a0_1] rfl (by (try simp only [List.map_toArray, List.map_cons, List.map_nil]); first | done | rfl | (simp only [List.length_drop, List.length_take]; rfl)) ?_; (with_reducible refine (chancelref01_Name.calls k a0_1 false _ A3.out).mono ?_); rintro e w' ⟨rfl, ⟨nd, rfl⟩⟩; refine ⟨_, rfl, ?_⟩))
   go_ret
   exact ⟨by first | rfl | (simp [zqm, zql] <;> rfl) | (simp [*, zqm, zql] <;> rfl), by repeat (first | (with_reducible first | exact HB.out | apply zqb | apply zqa | apply zqc | refine zqh ?_ GE256.out) | exact HB.out)⟩
 ·rw [if_neg c2] at H
  have c2b0 : (a0_0 == 1) = false := beq_eq_false_iff_ne.mpr c2
  have c2b1 : (a0_0 != 1) = true := bne_iff_ne.mpr c2
  by_cases c16 : a0_0 = 2
  ·rw [if_pos c16] at H
   have c16b0 : (a0_0 == 2) = true := beq_iff_eq.mpr c16
   have c16b1 : (a0_0 != 2) = false := bne_eq_false_iff_eq.mpr c16
   clear c16
   replace H := Option.bind_eq_some_iff.mp H
   obtain ⟨⟨t259, t260⟩, A170, H⟩ := H
   replace H : (if t260 = true then (some (t259 == a0_2)) else (some false)) = some r := H
   have A17 := Aside0.mk A170
   clear A170
   by_cases c18 : t260 = true
   ·subst c18
    have H1 : (some (t259 == a0_2)) = some r := by rw [if_pos rfl] at H; exact H
    clear H
    have H := H1
    clear H1
    obtain rfl := Option.some.inj H
    go_enter Tryz.func90, Tryz.ntmps90
    go_wp2_with (first | ((with_reducible refine zqr (N := 1) rfl ?_); refine zqp ?hg (N := 1) ?hd (cs := #[.int .i64 a0_0, .string a0_1, .int .i64 a0_2]) (t := 107) ?hr ?_; (case hd => rfl); (case hg => rfl); (case hr => first | (go_simp; done) | (go_simp; rfl)); intro gb256 hg w19 hbox hb; have n0_ := Aside0.mk (zqk (by repeat (first | exact HB.out | apply zqb | apply zqa | apply zqc)) hb); have n1_ := Aside0.mk (hbox); have n2_ := Aside0.mk ((by rw [hg]; exact (zqj (by repeat (first | exact HB.out | apply zqb | apply zqa | apply zqc))) : w.heap.size ≤ gb256)); have n3_ := Aside0.mk ((by rw [hg]; exact (zqj (by repeat (first | exact HB.out | apply zqb | apply zqa | apply zqc))) : w.heap.size ≤ gb256)); clear HB; have HB := n0_; have BK256 := n1_; have GW256 := n2_; have GE256 := n3_; clear n0_ n1_ n2_ n3_; clear hb hbox hg; have hcz20_0 : w19.cell? ⟨gb256, 0, none⟩ = some (.int .i64 a0_0) := (zqf BK256.out 0).trans rfl; have hcz20_1 : w19.cell? ⟨gb256, 1, none⟩ = some (.string a0_1) := (zqf BK256.out 1).trans rfl; have hcz20_2 : w19.cell? ⟨gb256, 2, none⟩ = some (.int .i64 a0_2) := (zqf BK256.out 2).trans rfl; have hfz20_0 := zqd BK256.out 0; have hfz20_1 := zqd BK256.out 1; have hfz20_2 := zqd BK256.out 2) | ((with_reducible refine zqo (f := 141) rfl ?_); refine zqD (some 28) rfl rfl Tryz.func141 (by kernel_rfl) rfl #[.string a0_1] rfl (by (try simp only [List.map_toArray, List.map_cons, List.map_nil]); first | done | rfl | (simp only [List.length_drop, List.length_take]; rfl)) ?_; (with_reducible refine (chancelref02_Number.calls k a0_1 t259 true _ A17.out).mono ?_); rintro e w21 ⟨rfl, hb⟩; refine ⟨_, rfl, ?_⟩; have n0_ := Aside0.mk (zqn (g := gb256) (o := .cells #[.int .i64 a0_0, .string a0_1, .int .i64 a0_2] 107 (0, 0)) (by (with_reducible repeat (first | apply zqg | apply zqi | apply zqe)); exact BK256.out) hb); have n1_ := Aside0.mk (zqk (by repeat (first | (with_reducible first | exact HB.out | apply zqb | apply zqa | apply zqc | refine zqh ?_ GE256.out) | exact HB.out)) hb); clear BK256; clear HB; have BK256 := n0_; have HB := n1_; clear n0_ n1_; (try clear hb); (try clear hb2); (try clear hk); (try clear hi); have hcz22_0 : w21.cell? ⟨gb256, 0, none⟩ = some (.int .i64 a0_0) := (zqf BK256.out 0).trans rfl; have hcz22_1 : w21.cell? ⟨gb256, 1, none⟩ = some (.string a0_1) := (zqf BK256.out 1).trans rfl; have hcz22_2 : w21.cell? ⟨gb256, 2, none⟩ = some (.int .i64 a0_2) := (zqf BK256.out 2).trans rfl; have hfz22_0 := zqd BK256.out 0; have hfz22_1 := zqd BK256.out 1; have hfz22_2 := zqd BK256.out 2))
    go_ret
    exact ⟨by first | rfl | (simp [zqm, zql] <;> rfl) | (simp [*, zqm, zql] <;> rfl), by repeat (first | (with_reducible first | exact HB.out | apply zqb | apply zqa | apply zqc | refine zqh ?_ GE256.out) | exact HB.out)⟩
   ·replace c18 := Bool.eq_false_iff.mpr c18
    subst c18
    have H1 : (some false) = some r := by rw [if_neg (show ¬ (false = true) by decide)] at H; exact H
    clear H
    have H := H1
    clear H1
    obtain rfl := Option.some.inj H
    go_enter Tryz.func90, Tryz.ntmps90
    go_wp2_with (first | ((with_reducible refine zqr (N := 1) rfl ?_); refine zqp ?hg (N := 1) ?hd (cs := #[.int .i64 a0_0, .string a0_1, .int .i64 a0_2]) (t := 107) ?hr ?_; (case hd => rfl); (case hg => rfl); (case hr => first | (go_simp; done) | (go_simp; rfl)); intro gb256 hg w23 hbox hb; have n0_ := Aside0.mk (zqk (by repeat (first | exact HB.out | apply zqb | apply zqa | apply zqc)) hb); have n1_ := Aside0.mk (hbox); have n2_ := Aside0.mk ((by rw [hg]; exact (zqj (by repeat (first | exact HB.out | apply zqb | apply zqa | apply zqc))) : w.heap.size ≤ gb256)); have n3_ := Aside0.mk ((by rw [hg]; exact (zqj (by repeat (first | exact HB.out | apply zqb | apply zqa | apply zqc))) : w.heap.size ≤ gb256)); clear HB; have HB := n0_; have BK256 := n1_; have GW256 := n2_; have GE256 := n3_; clear n0_ n1_ n2_ n3_; clear hb hbox hg; have hcz24_0 : w23.cell? ⟨gb256, 0, none⟩ = some (.int .i64 a0_0) := (zqf BK256.out 0).trans rfl; have hcz24_1 : w23.cell? ⟨gb256, 1, none⟩ = some (.string a0_1) := (zqf BK256.out 1).trans rfl; have hcz24_2 : w23.cell? ⟨gb256, 2, none⟩ = some (.int .i64 a0_2) := (zqf BK256.out 2).trans rfl; have hfz24_0 := zqd BK256.out 0; have hfz24_1 := zqd BK256.out 1; have hfz24_2 := zqd BK256.out 2) | ((with_reducible refine zqo (f := 141) rfl ?_); refine zqD (some 28) rfl rfl Tryz.func141 (by kernel_rfl) rfl #[.string a0_1] rfl (by (try simp only [List.map_toArray, List.map_cons, List.map_nil]); first | done | rfl | (simp only [List.length_drop, List.length_take]; rfl)) ?_; (with_reducible refine (chancelref02_Number.calls k a0_1 t259 false _ A17.out).mono ?_); rintro e w25 ⟨rfl, hb⟩; refine ⟨_, rfl, ?_⟩; have n0_ := Aside0.mk (zqn (g := gb256) (o := .cells #[.int .i64 a0_0, .string a0_1, .int .i64 a0_2] 107 (0, 0)) (by (with_reducible repeat (first | apply zqg | apply zqi | apply zqe)); exact BK256.out) hb); have n1_ := Aside0.mk (zqk (by repeat (first | (with_reducible first | exact HB.out | apply zqb | apply zqa | apply zqc | refine zqh ?_ GE256.out) | exact HB.out)) hb); clear BK256; clear HB; have BK256 := n0_; have HB := n1_; clear n0_ n1_; (try clear hb); (try clear hb2); (try clear hk); (try clear hi)))
    go_ret
    exact ⟨by first | rfl | (simp [zqm, zql] <;> rfl) | (simp [*, zqm, zql] <;> rfl), by repeat (first | (with_reducible first | exact HB.out | apply zqb | apply zqa | apply zqc | refine zqh ?_ GE256.out) | exact HB.out)⟩
  ·rw [if_neg c16] at H
   have c16b0 : (a0_0 == 2) = false := beq_eq_false_iff_ne.mpr c16
   have c16b1 : (a0_0 != 2) = true := bne_iff_ne.mpr c16
   by_cases c26 : a0_0 = 3
   ·rw [if_pos c26] at H
    have c26b0 : (a0_0 == 3) = true := beq_iff_eq.mpr c26
    have c26b1 : (a0_0 != 3) = false := bne_eq_false_iff_eq.mpr c26
    clear c26
    replace H := Option.bind_eq_some_iff.mp H
    obtain ⟨t261, A270, H⟩ := H
    replace H : (if t261 = true then (some (a0_2 == 0)) else (some false)) = some r := H
    have A27 := Aside0.mk A270
    clear A270
    by_cases c28 : t261 = true
    ·subst c28
     have H1 : (some (a0_2 == 0)) = some r := by rw [if_pos rfl] at H; exact H
     clear H
     have H := H1
     clear H1
     obtain rfl := Option.some.inj H
     go_enter Tryz.func90, Tryz.ntmps90
     go_wp2_with (first | ((with_reducible refine zqr (N := 1) rfl ?_); refine zqp ?hg (N := 1) ?hd (cs := #[.int .i64 a0_0, .string a0_1, .int .i64 a0_2]) (t := 107) ?hr ?_; (case hd => rfl); (case hg => rfl); (case hr => first | (go_simp; done) | (go_simp; rfl)); intro gb256 hg w29 hbox hb; have n0_ := Aside0.mk (zqk (by repeat (first | exact HB.out | apply zqb | apply zqa | apply zqc)) hb); have n1_ := Aside0.mk (hbox); have n2_ := Aside0.mk ((by rw [hg]; exact (zqj (by repeat (first | exact HB.out | apply zqb | apply zqa | apply zqc))) : w.heap.size ≤ gb256)); have n3_ := Aside0.mk ((by rw [hg]; exact (zqj (by repeat (first | exact HB.out | apply zqb | apply zqa | apply zqc))) : w.heap.size ≤ gb256)); clear HB; have HB := n0_; have BK256 := n1_; have GW256 := n2_; have GE256 := n3_; clear n0_ n1_ n2_ n3_; clear hb hbox hg; have hcz30_0 : w29.cell? ⟨gb256, 0, none⟩ = some (.int .i64 a0_0) := (zqf BK256.out 0).trans rfl; have hcz30_1 : w29.cell? ⟨gb256, 1, none⟩ = some (.string a0_1) := (zqf BK256.out 1).trans rfl; have hcz30_2 : w29.cell? ⟨gb256, 2, none⟩ = some (.int .i64 a0_2) := (zqf BK256.out 2).trans rfl; have hfz30_0 := zqd BK256.out 0; have hfz30_1 := zqd BK256.out 1; have hfz30_2 := zqd BK256.out 2) | ((with_reducible refine zqo (f := 140) rfl ?_); refine zqD (some 42) rfl rfl Tryz.func140 (by kernel_rfl) rfl #[.string a0_1] rfl (by (try simp only [List.map_toArray, List.map_cons, List.map_nil]); first | done | rfl | (simp only [List.length_drop, List.length_take]; rfl)) ?_; (with_reducible refine (chancelref02_Keyword.calls k a0_1 true _ A27.out).mono ?_); rintro e w31 ⟨rfl, hb⟩; refine ⟨_, rfl, ?_⟩; have n0_ := Aside0.mk (zqn (g := gb256) (o := .cells #[.int .i64 a0_0, .string a0_1, .int .i64 a0_2] 107 (0, 0)) (by (with_reducible repeat (first | apply zqg | apply zqi | apply zqe)); exact BK256.out) hb); have n1_ := Aside0.mk (zqk (by repeat (first | (with_reducible first | exact HB.out | apply zqb | apply zqa | apply zqc | refine zqh ?_ GE256.out) | exact HB.out)) hb); clear BK256; clear HB; have BK256 := n0_; have HB := n1_; clear n0_ n1_; (try clear hb); (try clear hb2); (try clear hk); (try clear hi); have hcz32_0 : w31.cell? ⟨gb256, 0, none⟩ = some (.int .i64 a0_0) := (zqf BK256.out 0).trans rfl; have hcz32_1 : w31.cell? ⟨gb256, 1, none⟩ = some (.string a0_1) := (zqf BK256.out 1).trans rfl; have hcz32_2 : w31.cell? ⟨gb256, 2, none⟩ = some (.int .i64 a0_2) := (zqf BK256.out 2).trans rfl; have hfz32_0 := zqd BK256.out 0; have hfz32_1 := zqd BK256.out 1; have hfz32_2 := zqd BK256.out 2))
     go_ret
     exact ⟨by first | rfl | (simp [zqm, zql] <;> rfl) | (simp [*, zqm, zql] <;> rfl), by repeat (first | (with_reducible first | exact HB.out | apply zqb | apply zqa | apply zqc | refine zqh ?_ GE256.out) | exact HB.out)⟩
    ·replace c28 := Bool.eq_false_iff.mpr c28
     subst c28
     have H1 : (some false) = some r := by rw [if_neg (show ¬ (false = true) by decide)] at H; exact H
     clear H
     have H := H1
     clear H1
     obtain rfl := Option.some.inj H
     go_enter Tryz.func90, Tryz.ntmps90
     go_wp2_with (first | ((with_reducible refine zqr (N := 1) rfl ?_); refine zqp ?hg (N := 1) ?hd (cs := #[.int .i64 a0_0, .string a0_1, .int .i64 a0_2]) (t := 107) ?hr ?_; (case hd => rfl); (case hg => rfl); (case hr => first | (go_simp; done) | (go_simp; rfl)); intro gb256 hg w33 hbox hb; have n0_ := Aside0.mk (zqk (by repeat (first | exact HB.out | apply zqb | apply zqa | apply zqc)) hb); have n1_ := Aside0.mk (hbox); have n2_ := Aside0.mk ((by rw [hg]; exact (zqj (by repeat (first | exact HB.out | apply zqb | apply zqa | apply zqc))) : w.heap.size ≤ gb256)); have n3_ := Aside0.mk ((by rw [hg]; exact (zqj (by repeat (first | exact HB.out | apply zqb | apply zqa | apply zqc))) : w.heap.size ≤ gb256)); clear HB; have HB := n0_; have BK256 := n1_; have GW256 := n2_; have GE256 := n3_; clear n0_ n1_ n2_ n3_; clear hb hbox hg; have hcz34_0 : w33.cell? ⟨gb256, 0, none⟩ = some (.int .i64 a0_0) := (zqf BK256.out 0).trans rfl; have hcz34_1 : w33.cell? ⟨gb256, 1, none⟩ = some (.string a0_1) := (zqf BK256.out 1).trans rfl; have hcz34_2 : w33.cell? ⟨gb256, 2, none⟩ = some (.int .i64 a0_2) := (zqf BK256.out 2).trans rfl; have hfz34_0 := zqd BK256.out 0; have hfz34_1 := zqd BK256.out 1; have hfz34_2 := zqd BK256.out 2) | ((with_reducible refine zqo (f := 140) rfl ?_); refine zqD (some 42) rfl rfl Tryz.func140 (by kernel_rfl) rfl #[.string a0_1] rfl (by (try simp only [List.map_toArray, List.map_cons, List.map_nil]); first | done | rfl | (simp only [List.length_drop, List.length_take]; rfl)) ?_; (with_reducible refine (chancelref02_Keyword.calls k a0_1 false _ A27.out).mono ?_); rintro e w35 ⟨rfl, hb⟩; refine ⟨_, rfl, ?_⟩; have n0_ := Aside0.mk (zqn (g := gb256) (o := .cells #[.int .i64 a0_0, .string a0_1, .int .i64 a0_2] 107 (0, 0)) (by (with_reducible repeat (first | apply zqg | apply zqi | apply zqe)); exact BK256.out) hb); have n1_ := Aside0.mk (zqk (by repeat (first | (with_reducible first | exact HB.out | apply zqb | apply zqa | apply zqc | refine zqh ?_ GE256.out) | exact HB.out)) hb); clear BK256; clear HB; have BK256 := n0_; have HB := n1_; clear n0_ n1_; (try clear hb); (try clear hb2); (try clear hk); (try clear hi)))
     go_ret
     exact ⟨by first | rfl | (simp [zqm, zql] <;> rfl) | (simp [*, zqm, zql] <;> rfl), by repeat (first | (with_reducible first | exact HB.out | apply zqb | apply zqa | apply zqc | refine zqh ?_ GE256.out) | exact HB.out)⟩
   ·rw [if_neg c26] at H
    have c26b0 : (a0_0 == 3) = false := beq_eq_false_iff_ne.mpr c26
    have c26b1 : (a0_0 != 3) = true := bne_iff_ne.mpr c26
    by_cases c36 : a0_0 = 4
    ·rw [if_pos c36] at H
     have c36b0 : (a0_0 == 4) = true := beq_iff_eq.mpr c36
     have c36b1 : (a0_0 != 4) = false := bne_eq_false_iff_eq.mpr c36
     clear c36
     replace H := Option.bind_eq_some_iff.mp H
     obtain ⟨t262, A370, H⟩ := H
     replace H : ((chancelref02_Has.f k t262 a0_1).bind fun t265 => (if t265 = true then (some (a0_2 == 0)) else (some false))) = some r := H
     have A37 := Aside0.mk A370
     clear A370
     replace H := Option.bind_eq_some_iff.mp H
     obtain ⟨t265, A380, H⟩ := H
     replace H : (if t265 = true then (some (a0_2 == 0)) else (some false)) = some r := H
     have A38 := Aside0.mk A380
     clear A380
     by_cases c39 : t265 = true
     ·subst c39
      have H1 : (some (a0_2 == 0)) = some r := by rw [if_pos rfl] at H; exact H
      clear H
      have H := H1
      clear H1
      obtain rfl := Option.some.inj H
      go_enter Tryz.func90, Tryz.ntmps90
      try go_wp2_with (first | ((with_reducible refine zqr (N := 1) rfl ?_); refine zqp ?hg (N := 1) ?hd (cs := #[.int .i64 a0_0, .string a0_1, .int .i64 a0_2]) (t := 107) ?hr ?_; (case hd => rfl); (case hg => rfl); (case hr => first | (go_simp; done) | (go_simp; rfl)); intro gb256 hg w40 hbox hb; have n0_ := Aside0.mk (zqk (by repeat (first | exact HB.out | apply zqb | apply zqa | apply zqc)) hb); have n1_ := Aside0.mk (hbox); have n2_ := Aside0.mk ((by rw [hg]; exact (zqj (by repeat (first | exact HB.out | apply zqb | apply zqa | apply zqc))) : w.heap.size ≤ gb256)); have n3_ := Aside0.mk ((by rw [hg]; exact (zqj (by repeat (first | exact HB.out | apply zqb | apply zqa | apply zqc))) : w.heap.size ≤ gb256)); clear HB; have HB := n0_; have BK256 := n1_; have GW256 := n2_; have GE256 := n3_; clear n0_ n1_ n2_ n3_; clear hb hbox hg; have hcz41_0 : w40.cell? ⟨gb256, 0, none⟩ = some (.int .i64 a0_0) := (zqf BK256.out 0).trans rfl; have hcz41_1 : w40.cell? ⟨gb256, 1, none⟩ = some (.string a0_1) := (zqf BK256.out 1).trans rfl; have hcz41_2 : w40.cell? ⟨gb256, 2, none⟩ = some (.int .i64 a0_2) := (zqf BK256.out 2).trans rfl; have hfz41_0 := zqd BK256.out 0; have hfz41_1 := zqd BK256.out 1; have hfz41_2 := zqd BK256.out 2))
      have n0_ := Aside0.mk (zqi BK256.out)
      have n1_ := Aside0.mk (zqc HB.out)
      clear BK256
      clear HB
      have BK256 := n0_
      have HB := n1_
      clear n0_ n1_
      refine start_ (n := 10) (S := fun w' => w'.cell? ⟨gb256, 0, none⟩ = some (.int .i64 a0_0) ∧ w'.cell? ⟨gb256, 1, none⟩ = some (.string a0_1) ∧ w'.cell? ⟨gb256, 2, none⟩ = some (.int .i64 a0_2)) (ds := []) #[false, false, false, false, false, false, false, false, false, false] (by kernel_rfl) rfl rfl ⟨(zqf BK256.out 0).trans rfl, (zqf BK256.out 1).trans rfl, (zqf BK256.out 2).trans rfl⟩ (fun hHeld => ?_); refine with_tabW chancelref02_right.tab10 chancelref02_right.bits10 (fun HT_ HW_ => ?_)
      generalize w40.drew = w42 at BK256 HB hHeld ⊢
      refine pure_ (i := 1) (N := some 51) (v := ?_) (a' := ?_) #[false, true, false, false, false, false, false, false, false, false] rfl rfl (any_of HT_.out (by kernel_rfl)) (fun _ _ _ h => h) (Or.inl ⟨by rfl, ?_⟩) ?_ ?_
      rotate_left
      ·intro w'
       go_simp
       with_reducible rfl
      rotate_left
      ·simp only [Act.put, List.setIfInBounds_toArray, List.set_cons_zero, List.set_cons_succ, i64_w, i32_w]
       rfl
      refine take_ (i := 2) (N := some 52) (v := ?_) (a' := ?_) #[false, true, true, false, false, false, false, false, false, false] rfl rfl (take_ofW HT_.out HW_.out (by kernel_rfl)) (fun _ _ _ h => h) (Or.inl ⟨by rfl, ?_⟩) hHeld ?_ ?_
      rotate_left
      ·rintro w' ⟨s0, s1, s2⟩
       go_simp
       with_reducible rfl
      rotate_left
      ·simp only [Act.put, List.setIfInBounds_toArray, List.set_cons_zero, List.set_cons_succ, i64_w, i32_w]
       rfl
      refine one_ (i := 0) (N := some 50) #[true, true, true, false, false, false, false, false, false, false] rfl rfl (one_of HT_.out (by kernel_rfl)) (by decide) (fun K hK => ?_)
      refine goes_ Tryz.func143 (by kernel_rfl) rfl #[] (by rfl) rfl rfl (by (try simp only [List.map_toArray, List.map_cons, List.map_nil]); first | done | rfl | (simp only [List.length_drop, List.length_take]; rfl)) ?_
      with_reducible refine (chancelref02_marks.calls  t262 _ A37.out).mono ?_
      rintro e w43 ⟨v263, rfl, ho0, hb⟩
      refine ⟨_, rfl, ?_⟩
      have n0_ := Aside0.mk (Kd.R_lower ho0 (zqj (by repeat (first | (with_reducible first | exact HB.out | apply zqb | apply zqa | apply zqc | refine zqh ?_ GE256.out) | exact HB.out))))
      have n1_ := Aside0.mk (zqn (g := gb256) (o := .cells #[.int .i64 a0_0, .string a0_1, .int .i64 a0_2] 107 (0, 0)) (by (with_reducible repeat (first | apply zqg | apply zqi | apply zqe)); exact BK256.out) hb)
      have n2_ := Aside0.mk (zqk (by repeat (first | (with_reducible first | exact HB.out | apply zqb | apply zqa | apply zqc | refine zqh ?_ GE256.out) | exact HB.out)) hb)
      clear BK256
      clear HB
      have HO264 := n0_
      have BK256 := n1_
      have HB := n2_
      clear n0_ n1_ n2_
      (try clear hb)
      (try clear hb2)
      (try clear hk)
      (try clear hi)
      (try clear ho0)
      obtain ⟨Ao44, co44, eo44⟩ := Kd.R_slice HO264.out
      (first | subst eo44 | (injection eo44 with f1_ f2_ f3_; have f4_ := f1_.symm; have f5_ := f3_.symm; clear f1_ f2_ f3_; subst f4_; subst f5_))
      refine hK.out _ _ ⟨(zqf BK256.out 0).trans rfl, (zqf BK256.out 1).trans rfl, (zqf BK256.out 2).trans rfl⟩ (fun hHeld => ?_)
      clear hK K
      refine norm_ (a' := ?_) ?_ ?_
      rotate_left
      ·show Act.put _ (some 50) _ = _
       simp only [Act.put, List.setIfInBounds_toArray, List.set_cons_zero, List.set_cons_succ, i64_w, i32_w]
       rfl
      refine one_ (i := 3) (N := some 53) #[true, true, true, true, false, false, false, false, false, false] rfl rfl (one_of HT_.out (by kernel_rfl)) (by decide) (fun K hK => ?_)
      refine goes_ Tryz.func142 (by kernel_rfl) rfl #[.slice Ao44 t262.length co44, .string a0_1] (by rfl) rfl rfl (by (try simp only [List.map_toArray, List.map_cons, List.map_nil]); first | done | rfl | (simp only [List.length_drop, List.length_take]; rfl)) ?_
      with_reducible refine (chancelref02_Has.calls k _ _ t262 a0_1 true _ ?side1 ?side2 A38.out).mono ?_
      (case side1 => repeat (first | exact (Kd.R_reads' HO264.out).2.2 | (with_reducible refine Kd.C_alloc ?_ _) | (with_reducible refine Kd.C_drewN ?_ _) | (with_reducible refine Kd.C_drew ?_)))
      (case side2 => exact (Kd.R_reads' HO264.out).2.1)
      rintro e w' ⟨rfl, ⟨nd, rfl⟩⟩
      refine ⟨_, rfl, ?_⟩
      refine hK.out _ _ ⟨(zqf BK256.out 0).trans rfl, (zqf BK256.out 1).trans rfl, (zqf BK256.out 2).trans rfl⟩ (fun hHeld => ?_)
      clear hK K
      refine norm_ (a' := ?_) ?_ ?_
      rotate_left
      ·show Act.put _ (some 53) _ = _
       simp only [Act.put, List.setIfInBounds_toArray, List.set_cons_zero, List.set_cons_succ, i64_w, i32_w]
       rfl
      refine pure_ (i := 4) (N := some 54) (v := ?_) (a' := ?_) #[true, true, true, true, true, false, false, false, false, false] rfl rfl (any_of HT_.out (by kernel_rfl)) (fun _ _ _ h => h) (Or.inl ⟨by rfl, ?_⟩) ?_ ?_
      rotate_left
      ·intro w'
       go_simp
       with_reducible rfl
      rotate_left
      ·simp only [Act.put, List.setIfInBounds_toArray, List.set_cons_zero, List.set_cons_succ, i64_w, i32_w]
       rfl
      refine pure_ (i := 5) (N := some 55) (v := ?_) (a' := ?_) #[true, true, true, true, true, true, false, false, false, false] rfl rfl (any_of HT_.out (by kernel_rfl)) (fun _ _ _ h => h) (Or.inl ⟨by rfl, ?_⟩) ?_ ?_
      rotate_left
      ·intro w'
       go_simp
       with_reducible rfl
      rotate_left
      ·simp only [Act.put, List.setIfInBounds_toArray, List.set_cons_zero, List.set_cons_succ, i64_w, i32_w]
       rfl
      refine take_ (i := 6) (N := some 56) (v := ?_) (a' := ?_) #[true, true, true, true, true, true, true, false, false, false] rfl rfl (take_ofW HT_.out HW_.out (by kernel_rfl)) (fun _ _ _ h => h) (Or.inl ⟨by rfl, ?_⟩) hHeld ?_ ?_
      rotate_left
      ·rintro w' ⟨s0, s1, s2⟩
       go_simp
       with_reducible rfl
      rotate_left
      ·simp only [Act.put, List.setIfInBounds_toArray, List.set_cons_zero, List.set_cons_succ, i64_w, i32_w]
       rfl
      refine pure_ (i := 7) (N := some 57) (v := ?_) (a' := ?_) #[true, true, true, true, true, true, true, true, false, false] rfl rfl (any_of HT_.out (by kernel_rfl)) (fun _ _ _ h => h) (Or.inl ⟨by rfl, ?_⟩) ?_ ?_
      rotate_left
      ·intro w'
       go_simp
       with_reducible rfl
      rotate_left
      ·simp only [Act.put, List.setIfInBounds_toArray, List.set_cons_zero, List.set_cons_succ, i64_w, i32_w]
       rfl
      refine pure_ (i := 8) (N := some 58) (v := ?_) (a' := ?_) #[true, true, true, true, true, true, true, true, true, false] rfl rfl (any_of HT_.out (by kernel_rfl)) (fun _ _ _ h => h) (Or.inl ⟨by rfl, ?_⟩) ?_ ?_
      rotate_left
      ·intro w'
       go_simp
       with_reducible rfl
      rotate_left
      ·simp only [Act.put, List.setIfInBounds_toArray, List.set_cons_zero, List.set_cons_succ, i64_w, i32_w]
       rfl
      refine pure_ (i := 9) (N := some 2) (v := ?_) (a' := ?_) #[true, true, true, true, true, true, true, true, true, true] rfl rfl (any_of HT_.out (by kernel_rfl)) (fun _ _ _ h => h) (Or.inl ⟨by rfl, ?_⟩) ?_ ?_
      rotate_left
      ·intro w'
       go_simp
       with_reducible rfl
      rotate_left
      ·simp only [Act.put, List.setIfInBounds_toArray, List.set_cons_zero, List.set_cons_succ, i64_w, i32_w]
       rfl
      refine done_ (done_of HT_.out (by kernel_rfl)) ?_
      try go_wp2
      go_ret
      exact ⟨by first | rfl | (simp [zqm, zql] <;> rfl) | (simp [*, zqm, zql] <;> rfl), by repeat (first | (with_reducible first | exact HB.out | apply zqb | apply zqa | apply zqc | refine zqh ?_ GE256.out) | exact HB.out)⟩
     ·replace c39 := Bool.eq_false_iff.mpr c39
      subst c39
      have H1 : (some false) = some r := by rw [if_neg (show ¬ (false = true) by decide)] at H; exact H
      clear H
      have H := H1
      clear H1
      obtain rfl := Option.some.inj H
      go_enter Tryz.func90, Tryz.ntmps90
      try go_wp2_with (first | ((with_reducible refine zqr (N := 1) rfl ?_); refine zqp ?hg (N := 1) ?hd (cs := #[.int .i64 a0_0, .string a0_1, .int .i64 a0_2]) (t := 107) ?hr ?_; (case hd => rfl); (case hg => rfl); (case hr => first | (go_simp; done) | (go_simp; rfl)); intro gb256 hg w45 hbox hb; have n0_ := Aside0.mk (zqk (by repeat (first | exact HB.out | apply zqb | apply zqa | apply zqc)) hb); have n1_ := Aside0.mk (hbox); have n2_ := Aside0.mk ((by rw [hg]; exact (zqj (by repeat (first | exact HB.out | apply zqb | apply zqa | apply zqc))) : w.heap.size ≤ gb256)); have n3_ := Aside0.mk ((by rw [hg]; exact (zqj (by repeat (first | exact HB.out | apply zqb | apply zqa | apply zqc))) : w.heap.size ≤ gb256)); clear HB; have HB := n0_; have BK256 := n1_; have GW256 := n2_; have GE256 := n3_; clear n0_ n1_ n2_ n3_; clear hb hbox hg; have hcz46_0 : w45.cell? ⟨gb256, 0, none⟩ = some (.int .i64 a0_0) := (zqf BK256.out 0).trans rfl; have hcz46_1 : w45.cell? ⟨gb256, 1, none⟩ = some (.string a0_1) := (zqf BK256.out 1).trans rfl; have hcz46_2 : w45.cell? ⟨gb256, 2, none⟩ = some (.int .i64 a0_2) := (zqf BK256.out 2).trans rfl; have hfz46_0 := zqd BK256.out 0; have hfz46_1 := zqd BK256.out 1; have hfz46_2 := zqd BK256.out 2))
      have n0_ := Aside0.mk (zqi BK256.out)
      have n1_ := Aside0.mk (zqc HB.out)
      clear BK256
      clear HB
      have BK256 := n0_
      have HB := n1_
      clear n0_ n1_
      refine start_ (n := 10) (S := fun w' => w'.cell? ⟨gb256, 0, none⟩ = some (.int .i64 a0_0) ∧ w'.cell? ⟨gb256, 1, none⟩ = some (.string a0_1) ∧ w'.cell? ⟨gb256, 2, none⟩ = some (.int .i64 a0_2)) (ds := []) #[false, false, false, false, false, false, false, false, false, false] (by kernel_rfl) rfl rfl ⟨(zqf BK256.out 0).trans rfl, (zqf BK256.out 1).trans rfl, (zqf BK256.out 2).trans rfl⟩ (fun hHeld => ?_); refine with_tabW chancelref02_right.tab10 chancelref02_right.bits10 (fun HT_ HW_ => ?_)
      generalize w45.drew = w47 at BK256 HB hHeld ⊢
      refine pure_ (i := 1) (N := some 51) (v := ?_) (a' := ?_) #[false, true, false, false, false, false, false, false, false, false] rfl rfl (any_of HT_.out (by kernel_rfl)) (fun _ _ _ h => h) (Or.inl ⟨by rfl, ?_⟩) ?_ ?_
      rotate_left
      ·intro w'
       go_simp
       with_reducible rfl
      rotate_left
      ·simp only [Act.put, List.setIfInBounds_toArray, List.set_cons_zero, List.set_cons_succ, i64_w, i32_w]
       rfl
      refine take_ (i := 2) (N := some 52) (v := ?_) (a' := ?_) #[false, true, true, false, false, false, false, false, false, false] rfl rfl (take_ofW HT_.out HW_.out (by kernel_rfl)) (fun _ _ _ h => h) (Or.inl ⟨by rfl, ?_⟩) hHeld ?_ ?_
      rotate_left
      ·rintro w' ⟨s0, s1, s2⟩
       go_simp
       with_reducible rfl
      rotate_left
      ·simp only [Act.put, List.setIfInBounds_toArray, List.set_cons_zero, List.set_cons_succ, i64_w, i32_w]
       rfl
      refine one_ (i := 0) (N := some 50) #[true, true, true, false, false, false, false, false, false, false] rfl rfl (one_of HT_.out (by kernel_rfl)) (by decide) (fun K hK => ?_)
      refine goes_ Tryz.func143 (by kernel_rfl) rfl #[] (by rfl) rfl rfl (by (try simp only [List.map_toArray, List.map_cons, List.map_nil]); first | done | rfl | (simp only [List.length_drop, List.length_take]; rfl)) ?_
      with_reducible refine (chancelref02_marks.calls  t262 _ A37.out).mono ?_
      rintro e w48 ⟨v263, rfl, ho0, hb⟩
      refine ⟨_, rfl, ?_⟩
      have n0_ := Aside0.mk (Kd.R_lower ho0 (zqj (by repeat (first | (with_reducible first | exact HB.out | apply zqb | apply zqa | apply zqc | refine zqh ?_ GE256.out) | exact HB.out))))
      have n1_ := Aside0.mk (zqn (g := gb256) (o := .cells #[.int .i64 a0_0, .string a0_1, .int .i64 a0_2] 107 (0, 0)) (by (with_reducible repeat (first | apply zqg | apply zqi | apply zqe)); exact BK256.out) hb)
      have n2_ := Aside0.mk (zqk (by repeat (first | (with_reducible first | exact HB.out | apply zqb | apply zqa | apply zqc | refine zqh ?_ GE256.out) | exact HB.out)) hb)
      clear BK256
      clear HB
      have HO264 := n0_
      have BK256 := n1_
      have HB := n2_
      clear n0_ n1_ n2_
      (try clear hb)
      (try clear hb2)
      (try clear hk)
      (try clear hi)
      (try clear ho0)
      obtain ⟨Ao49, co49, eo49⟩ := Kd.R_slice HO264.out
      (first | subst eo49 | (injection eo49 with f1_ f2_ f3_; have f4_ := f1_.symm; have f5_ := f3_.symm; clear f1_ f2_ f3_; subst f4_; subst f5_))
      refine hK.out _ _ ⟨(zqf BK256.out 0).trans rfl, (zqf BK256.out 1).trans rfl, (zqf BK256.out 2).trans rfl⟩ (fun hHeld => ?_)
      clear hK K
      refine norm_ (a' := ?_) ?_ ?_
      rotate_left
      ·show Act.put _ (some 50) _ = _
       simp only [Act.put, List.setIfInBounds_toArray, List.set_cons_zero, List.set_cons_succ, i64_w, i32_w]
       rfl
      refine one_ (i := 3) (N := some 53) #[true, true, true, true, false, false, false, false, false, false] rfl rfl (one_of HT_.out (by kernel_rfl)) (by decide) (fun K hK => ?_)
      refine goes_ Tryz.func142 (by kernel_rfl) rfl #[.slice Ao49 t262.length co49, .string a0_1] (by rfl) rfl rfl (by (try simp only [List.map_toArray, List.map_cons, List.map_nil]); first | done | rfl | (simp only [List.length_drop, List.length_take]; rfl)) ?_
      with_reducible refine (chancelref02_Has.calls k _ _ t262 a0_1 false _ ?side1 ?side2 A38.out).mono ?_
      (case side1 => repeat (first | exact (Kd.R_reads' HO264.out).2.2 | (with_reducible refine Kd.C_alloc ?_ _) | (with_reducible refine Kd.C_drewN ?_ _) | (with_reducible refine Kd.C_drew ?_)))
      (case side2 => exact (Kd.R_reads' HO264.out).2.1)
      rintro e w' ⟨rfl, ⟨nd, rfl⟩⟩
      refine ⟨_, rfl, ?_⟩
      refine hK.out _ _ ⟨(zqf BK256.out 0).trans rfl, (zqf BK256.out 1).trans rfl, (zqf BK256.out 2).trans rfl⟩ (fun hHeld => ?_)
      clear hK K
      refine norm_ (a' := ?_) ?_ ?_
      rotate_left
      ·show Act.put _ (some 53) _ = _
       simp only [Act.put, List.setIfInBounds_toArray, List.set_cons_zero, List.set_cons_succ, i64_w, i32_w]
       rfl
      refine pure_ (i := 4) (N := some 54) (v := ?_) (a' := ?_) #[true, true, true, true, true, false, false, false, false, false] rfl rfl (any_of HT_.out (by kernel_rfl)) (fun _ _ _ h => h) (Or.inl ⟨by rfl, ?_⟩) ?_ ?_
      rotate_left
      ·intro w'
       go_simp
       with_reducible rfl
      rotate_left
      ·simp only [Act.put, List.setIfInBounds_toArray, List.set_cons_zero, List.set_cons_succ, i64_w, i32_w]
       rfl
      refine pure_ (i := 5) (N := some 55) (v := undef) (a' := ?_) #[true, true, true, true, true, true, false, false, false, false] rfl rfl (any_of HT_.out (by kernel_rfl)) (fun _ _ _ h => h) (Or.inr ⟨by rfl, rfl⟩) ?_ ?_
      rotate_left
      ·simp only [Act.put, List.setIfInBounds_toArray, List.set_cons_zero, List.set_cons_succ, i64_w, i32_w]
       rfl
      refine pure_ (i := 6) (N := some 56) (v := undef) (a' := ?_) #[true, true, true, true, true, true, true, false, false, false] rfl rfl (any_of HT_.out (by kernel_rfl)) (fun _ _ _ h => h) (Or.inr ⟨by rfl, rfl⟩) ?_ ?_
      rotate_left
      ·simp only [Act.put, List.setIfInBounds_toArray, List.set_cons_zero, List.set_cons_succ, i64_w, i32_w]
       rfl
      refine pure_ (i := 7) (N := some 57) (v := undef) (a' := ?_) #[true, true, true, true, true, true, true, true, false, false] rfl rfl (any_of HT_.out (by kernel_rfl)) (fun _ _ _ h => h) (Or.inr ⟨by rfl, rfl⟩) ?_ ?_
      rotate_left
      ·simp only [Act.put, List.setIfInBounds_toArray, List.set_cons_zero, List.set_cons_succ, i64_w, i32_w]
       rfl
      refine pure_ (i := 8) (N := some 58) (v := ?_) (a' := ?_) #[true, true, true, true, true, true, true, true, true, false] rfl rfl (any_of HT_.out (by kernel_rfl)) (fun _ _ _ h => h) (Or.inl ⟨by rfl, ?_⟩) ?_ ?_
      rotate_left
      ·intro w'
       go_simp
       with_reducible rfl
      rotate_left
      ·simp only [Act.put, List.setIfInBounds_toArray, List.set_cons_zero, List.set_cons_succ, i64_w, i32_w]
       rfl
      refine pure_ (i := 9) (N := some 2) (v := ?_) (a' := ?_) #[true, true, true, true, true, true, true, true, true, true] rfl rfl (any_of HT_.out (by kernel_rfl)) (fun _ _ _ h => h) (Or.inl ⟨by rfl, ?_⟩) ?_ ?_
      rotate_left
      ·intro w'
       go_simp
       with_reducible rfl
      rotate_left
      ·simp only [Act.put, List.setIfInBounds_toArray, List.set_cons_zero, List.set_cons_succ, i64_w, i32_w]
       rfl
      refine done_ (done_of HT_.out (by kernel_rfl)) ?_
      try go_wp2
      go_ret
      exact ⟨by first | rfl | (simp [zqm, zql] <;> rfl) | (simp [*, zqm, zql] <;> rfl), by repeat (first | (with_reducible first | exact HB.out | apply zqb | apply zqa | apply zqc | refine zqh ?_ GE256.out) | exact HB.out)⟩
    ·rw [if_neg c36] at H
     have c36b0 : (a0_0 == 4) = false := beq_eq_false_iff_ne.mpr c36
     have c36b1 : (a0_0 != 4) = true := bne_iff_ne.mpr c36
     obtain rfl := Option.some.inj H
     go_enter Tryz.func90, Tryz.ntmps90
     go_wp2_with (first | ((with_reducible refine zqr (N := 1) rfl ?_); refine zqp ?hg (N := 1) ?hd (cs := #[.int .i64 a0_0, .string a0_1, .int .i64 a0_2]) (t := 107) ?hr ?_; (case hd => rfl); (case hg => rfl); (case hr => first | (go_simp; done) | (go_simp; rfl)); intro gb256 hg w50 hbox hb; have n0_ := Aside0.mk (zqk (by repeat (first | exact HB.out | apply zqb | apply zqa | apply zqc)) hb); have n1_ := Aside0.mk (hbox); have n2_ := Aside0.mk ((by rw [hg]; exact (zqj (by repeat (first | exact HB.out | apply zqb | apply zqa | apply zqc))) : w.heap.size ≤ gb256)); have n3_ := Aside0.mk ((by rw [hg]; exact (zqj (by repeat (first | exact HB.out | apply zqb | apply zqa | apply zqc))) : w.heap.size ≤ gb256)); clear HB; have HB := n0_; have BK256 := n1_; have GW256 := n2_; have GE256 := n3_; clear n0_ n1_ n2_ n3_; clear hb hbox hg; have hcz51_0 : w50.cell? ⟨gb256, 0, none⟩ = some (.int .i64 a0_0) := (zqf BK256.out 0).trans rfl; have hcz51_1 : w50.cell? ⟨gb256, 1, none⟩ = some (.string a0_1) := (zqf BK256.out 1).trans rfl; have hcz51_2 : w50.cell? ⟨gb256, 2, none⟩ = some (.int .i64 a0_2) := (zqf BK256.out 2).trans rfl; have hfz51_0 := zqd BK256.out 0; have hfz51_1 := zqd BK256.out 1; have hfz51_2 := zqd BK256.out 2))
     go_ret
     exact ⟨by first | rfl | (simp [zqm, zql] <;> rfl) | (simp [*, zqm, zql] <;> rfl), by repeat (first | (with_reducible first | exact HB.out | apply zqb | apply zqa | apply zqc | refine zqh ?_ GE256.out) | exact HB.out)⟩
end Go.Proofs.YtchekgnacodolaaGreatDoor.X
end
section
namespace Go.Proofs.YtchekgnacodolaaGreatDoor.X
open Go.RowKit Go.Proofs.YtchekgnacodolaaGreatDoorW.PrintWords Go.Proofs.YtchekgnacodolaaGreatDoorW.PrintLast Go.Proofs.YtchekgnacodolaaGreatDoorW.PrintMore
attribute [local go_sem] zqK zqL max_two min_two zqB zqC zqI zqJ
set_option linter.unusedVariables false
set_option linter.unusedSimpArgs false
def chancelref02_Right.l0 : Nat → List (S107) → Int → Option (Bool)
 | 0, _, _ => none
 | k + 1, x0, x3 => if x3 < (x0.length : Int) then (if 0 ≤ x3 then ((chancelref02_right.f k ((zqy x0 x3).f0) ((zqy x0 x3).f1) ((zqy x0 x3).f2)).bind fun t267 => (if t267 = true then (chancelref02_Right.l0 k x0 (wrap64 (x3 + 1))) else (some false))) else (none)) else (some true)
def chancelref02_Right.f (k : Nat) (l0 : List (S107)) : Option (Bool) := chancelref02_Right.l0 k l0 0
theorem chancelref02_Right.mono_l : ∀ k, (∀ y0 y1, LeO (chancelref02_Right.l0 k y0 y1) (chancelref02_Right.l0 (k + 1) y0 y1))
 | 0 => fun _ _ r h => by simp [chancelref02_Right.l0] at h
 | k + 1 => by
  have ih0 := chancelref02_Right.mono_l k
  ·intro y0 y1
   unfold chancelref02_Right.l0
   repeat' first
   | (with_reducible exact ih0 _ _)
   | (with_reducible exact chancelref02_right.mono _ _ _ _)
   | (with_reducible exact LeO.refl _)
   | (with_reducible exact LeO.none _)
   | (with_reducible refine LeO.ite ?_ ?_)
   | (with_reducible refine LeO.bind ?_ (fun _ => ?_))
   | exact ih0 _ _
   | exact chancelref02_right.mono _ _ _ _
   | exact LeO.none _
   | refine LeO.ite ?_ ?_
   | refine LeO.bind ?_ (fun _ => ?_)
theorem chancelref02_Right.mono : ∀ a0 k, LeO (chancelref02_Right.f k a0) (chancelref02_Right.f (k + 1) a0) := by
 intro a0 k
 have ih0 := chancelref02_Right.mono_l k
 unfold chancelref02_Right.f
 repeat' first
   | (with_reducible exact ih0 _ _)
   | (with_reducible exact chancelref02_right.mono _ _ _ _)
   | (with_reducible exact LeO.refl _)
   | (with_reducible exact LeO.none _)
   | (with_reducible refine LeO.ite ?_ ?_)
   | (with_reducible refine LeO.bind ?_ (fun _ => ?_))
   | exact ih0 _ _
   | exact chancelref02_right.mono _ _ _ _
   | exact LeO.none _
   | refine LeO.ite ?_ ?_
   | refine LeO.bind ?_ (fun _ => ?_)
theorem chancelref02_Right.calls (k : Nat) (A0 : Option Addr) (c0 : Nat) (l0 : List (S107)) (r : Bool) (w : World) (hr0 : Kd.C k107 w A0 l0.length l0) (hc0 : l0.length ≤ c0) (h : chancelref02_Right.f k l0 = some r) :
  Calls Tryz.prog 53 #[.slice A0 l0.length c0] w fun e w' => e = .returned (.bool r) ∧ Below w.heap.size w w' := by
 have hu107 := Tryz.underlying107
 have HR0 := Aside0.mk hr0
 have HC0 := Aside0.mk hc0
 clear hr0 hc0
 have HB := Aside0.mk (Below.refl w.heap.size w)
 have H : (chancelref02_Right.l0 k l0 0) = some r := h
 clear h
 have H' := Aside0.mk H
 clear H
 go_enter Tryz.func53, Tryz.ntmps53
 go_wp2
 go_loopg [3] k (fun kq v3 w' => ∃ (x3_1 : Int), v3 = .int .i64 x3_1 ∧ Aside0 (chancelref02_Right.l0 kq l0 x3_1 = some r) ∧ Aside0 (kq ≤ k) ∧ Aside0 (Below w.heap.size w w'))
 case atStart => exact ⟨(0), (by first | rfl | (simp [*]; done)), H', ⟨Nat.le_refl _⟩, ⟨by repeat (first | exact HB.out | apply zqb | apply zqa | apply zqc)⟩⟩
 case round =>
  clear H'
  obtain ⟨x3_1, rfl, HA, HK1, HB⟩ := hrel
  cases gk with
  | zero => exact absurd HA.out (by simp [chancelref02_Right.l0])
  | succ k1 =>
   have H := HA.out
   clear HA
   simp only [chancelref02_Right.l0] at H
   by_cases c2 : x3_1 < (l0.length : Int)
   ·rw [if_pos c2] at H
    have c2b0 : decide (x3_1 < (l0.length : Int)) = true := decide_eq_true c2
    clear c2
    by_cases c3 : 0 ≤ x3_1
    ·rw [if_pos c3] at H
     have c3b0 : decide (0 ≤ x3_1) = true := decide_eq_true c3
     clear c3
     replace H := Option.bind_eq_some_iff.mp H
     obtain ⟨t267, A40, H⟩ := H
     replace H : (if t267 = true then (chancelref02_Right.l0 k1 l0 (wrap64 (x3_1 + 1))) else (some false)) = some r := H
     have A4 := Aside0.mk A40
     clear A40
     by_cases c5 : t267 = true
     ·subst c5
      have H1 : (chancelref02_Right.l0 k1 l0 (wrap64 (x3_1 + 1))) = some r := by rw [if_pos rfl] at H; exact H
      clear H
      have H := H1
      clear H1
      have H' := Aside0.mk H
      clear H
      have p266 : 0 ≤ (x3_1 : Int) := of_decide_eq_true (by assumption)
      have q266 : x3_1 < (l0.length : Int) := of_decide_eq_true (by assumption)
      obtain ⟨ad266, e266, hx266_0, hx266_1, hx266_2⟩ := at_T107 HR0.out x3_1 p266 q266
      cases e266
      replace hx266_0 := (HB.out.cell (World.block_lt_of_cell? w _ hx266_0)).trans hx266_0
      replace hx266_1 := (HB.out.cell (World.block_lt_of_cell? w _ hx266_1)).trans hx266_1
      replace hx266_2 := (HB.out.cell (World.block_lt_of_cell? w _ hx266_2)).trans hx266_2
      replace p266 := eq_true p266
      replace q266 := eq_true q266
      go_wp2_with (first | ((with_reducible refine zqo (f := 90) rfl ?_); refine zqD (some 14) rfl rfl Tryz.func90 (by kernel_rfl) rfl #[.agg #[.int .i64 ((zqy l0 x3_1).f0), .string ((zqy l0 x3_1).f1), .int .i64 ((zqy l0 x3_1).f2)]] rfl (by (try simp only [List.map_toArray, List.map_cons, List.map_nil]); first | done | rfl | (simp only [List.length_drop, List.length_take]; rfl)) ?_; (with_reducible refine (chancelref02_right.calls k1 ((zqy l0 x3_1).f0) ((zqy l0 x3_1).f1) ((zqy l0 x3_1).f2) true _ A4.out).mono ?_); rintro e w6 ⟨rfl, hb⟩; refine ⟨_, rfl, ?_⟩; have n0_ := Aside0.mk (zqk (by repeat (first | exact HB.out | apply zqb | apply zqa | apply zqc)) hb); clear HB; have HB := n0_; clear n0_; (try clear hb); (try clear hb2); (try clear hk); (try clear hi)))
      go_roundg k1
      case measure => have := HK1.out; omega
      case rel => exact ⟨(wrap64 (x3_1 + 1)), (by first | rfl | (simp [*]; done)), H', ⟨by have := HK1.out; omega⟩, ⟨by repeat (first | exact HB.out | apply zqb | apply zqa | apply zqc)⟩⟩
     ·replace c5 := Bool.eq_false_iff.mpr c5
      subst c5
      have H1 : (some false) = some r := by rw [if_neg (show ¬ (false = true) by decide)] at H; exact H
      clear H
      have H := H1
      clear H1
      obtain rfl := Option.some.inj H
      have p266 : 0 ≤ (x3_1 : Int) := of_decide_eq_true (by assumption)
      have q266 : x3_1 < (l0.length : Int) := of_decide_eq_true (by assumption)
      obtain ⟨ad266, e266, hx266_0, hx266_1, hx266_2⟩ := at_T107 HR0.out x3_1 p266 q266
      cases e266
      replace hx266_0 := (HB.out.cell (World.block_lt_of_cell? w _ hx266_0)).trans hx266_0
      replace hx266_1 := (HB.out.cell (World.block_lt_of_cell? w _ hx266_1)).trans hx266_1
      replace hx266_2 := (HB.out.cell (World.block_lt_of_cell? w _ hx266_2)).trans hx266_2
      replace p266 := eq_true p266
      replace q266 := eq_true q266
      go_wp2_with (first | ((with_reducible refine zqo (f := 90) rfl ?_); refine zqD (some 14) rfl rfl Tryz.func90 (by kernel_rfl) rfl #[.agg #[.int .i64 ((zqy l0 x3_1).f0), .string ((zqy l0 x3_1).f1), .int .i64 ((zqy l0 x3_1).f2)]] rfl (by (try simp only [List.map_toArray, List.map_cons, List.map_nil]); first | done | rfl | (simp only [List.length_drop, List.length_take]; rfl)) ?_; (with_reducible refine (chancelref02_right.calls k1 ((zqy l0 x3_1).f0) ((zqy l0 x3_1).f1) ((zqy l0 x3_1).f2) false _ A4.out).mono ?_); rintro e w7 ⟨rfl, hb⟩; refine ⟨_, rfl, ?_⟩; have n0_ := Aside0.mk (zqk (by repeat (first | exact HB.out | apply zqb | apply zqa | apply zqc)) hb); clear HB; have HB := n0_; clear n0_; (try clear hb); (try clear hb2); (try clear hk); (try clear hi)))
      go_ret
      exact ⟨by first | rfl | (simp [zqm, zql] <;> rfl) | (simp [*, zqm, zql] <;> rfl), by repeat (first | exact HB.out | apply zqb | apply zqa | apply zqc)⟩
    ·rw [if_neg c3] at H
     exact absurd H (by simp)
   ·rw [if_neg c2] at H
    have c2b0 : decide (x3_1 < (l0.length : Int)) = false := decide_eq_false c2
    clear c2
    obtain rfl := Option.some.inj H
    go_wp2
    go_ret
    exact ⟨by first | rfl | (simp [zqm, zql] <;> rfl) | (simp [*, zqm, zql] <;> rfl), by repeat (first | exact HB.out | apply zqb | apply zqa | apply zqc)⟩
end Go.Proofs.YtchekgnacodolaaGreatDoor.X
end
section
namespace Go.Proofs.YtchekgnacodolaaGreatDoor.X
open Go.RowKit Go.Proofs.YtchekgnacodolaaGreatDoorW.PrintWords Go.Proofs.YtchekgnacodolaaGreatDoorW.PrintLast Go.Proofs.YtchekgnacodolaaGreatDoorW.PrintMore
attribute [local go_sem] zqK zqL max_two min_two zqB zqC zqI zqJ
set_option linter.unusedVariables false
set_option linter.unusedSimpArgs false
def chancellaw05_refToks.l0 : Nat → List (S106) → List (S107) → Int → Option ((List (S107)))
 | 0, _, _, _ => none
 | k + 1, x0, x3, x4 => if x4 < (x0.length : Int) then (if 0 ≤ x4 then (if x3.length < 4398046511104 then (chancellaw05_refToks.l0 k x0 (x3 ++ [(⟨(zqw x0 x4).f0, (zqw x0 x4).f1, (zqw x0 x4).f2⟩ : S107)]) (wrap64 (x4 + 1))) else (none)) else (none)) else (some x3)
def chancellaw05_refToks.f (k : Nat) (l0 : List (S106)) : Option ((List (S107))) := chancellaw05_refToks.l0 k l0 ([] : List (S107)) 0
theorem chancellaw05_refToks.mono_l : ∀ k, (∀ y0 y1 y2, LeO (chancellaw05_refToks.l0 k y0 y1 y2) (chancellaw05_refToks.l0 (k + 1) y0 y1 y2))
 | 0 => fun _ _ _ r h => by simp [chancellaw05_refToks.l0] at h
 | k + 1 => by
  have ih0 := chancellaw05_refToks.mono_l k
  ·intro y0 y1 y2
   unfold chancellaw05_refToks.l0
   repeat' first
   | (with_reducible exact ih0 _ _ _)
   | (with_reducible exact LeO.refl _)
   | (with_reducible exact LeO.none _)
   | (with_reducible refine LeO.ite ?_ ?_)
   | (with_reducible refine LeO.bind ?_ (fun _ => ?_))
   | exact ih0 _ _ _
   | exact LeO.none _
   | refine LeO.ite ?_ ?_
   | refine LeO.bind ?_ (fun _ => ?_)
theorem chancellaw05_refToks.mono : ∀ a0 k, LeO (chancellaw05_refToks.f k a0) (chancellaw05_refToks.f (k + 1) a0) := by
 intro a0 k
 have ih0 := chancellaw05_refToks.mono_l k
 unfold chancellaw05_refToks.f
 repeat' first
   | (with_reducible exact ih0 _ _ _)
   | (with_reducible exact LeO.refl _)
   | (with_reducible exact LeO.none _)
   | (with_reducible refine LeO.ite ?_ ?_)
   | (with_reducible refine LeO.bind ?_ (fun _ => ?_))
   | exact ih0 _ _ _
   | exact LeO.none _
   | refine LeO.ite ?_ ?_
   | refine LeO.bind ?_ (fun _ => ?_)
def chancellaw05_refToks.T5 : Bool × List (List Nat × List Nat) := (true, [([], []), ([], []), ([], []), ([1, 2], [1, 2]), ([3], [3]), ([4], [4]), ([], []), ([], []), ([6, 7], [6, 7]), ([8], [8]), ([9], [9]), ([], []), ([], []), ([11, 12], [11, 12]), ([13], [13]), ([14], [14]), ([5, 10, 15], [5, 10, 15]), ([16], [16]), ([0, 17], [0, 17]), ([18, 18, 0, 1, 2, 3, 4, 5, 6, 7, 8, 9, 10, 11, 12, 13, 14, 15, 16, 17, 18], [0, 18])])
def chancellaw05_refToks.B5 : List Nat := [0, 0, 0, 6, 14, 30, 0, 0, 192, 448, 960, 0, 0, 6144, 14336, 30720, 65534, 131070, 262143, 524287]
theorem chancellaw05_refToks.tab5 : rtab .any (opsOf Tryz.f21 5) = chancellaw05_refToks.T5 := by kernel_rfl
theorem chancellaw05_refToks.bits5 : waitsOk chancellaw05_refToks.T5.2 chancellaw05_refToks.B5 = true := by kernel_rfl
theorem chancellaw05_refToks.calls (k : Nat) (A0 : Option Addr) (c0 : Nat) (l0 : List (S106)) (r : List (S107)) (w : World) (hr0 : Kd.C k106 w A0 l0.length l0) (hc0 : l0.length ≤ c0) (h : chancellaw05_refToks.f k l0 = some r) :
  Calls Tryz.prog 21 #[.slice A0 l0.length c0] w fun e w' => ∃ v0_ : Value, e = .returned (v0_) ∧ Kd.R k107 107 w' w.heap.size (fun _ => True) v0_ r ∧ Below w.heap.size w w' := by
 have hu107 := Tryz.underlying107
 have HR0 := Aside0.mk hr0
 have HC0 := Aside0.mk hc0
 clear hr0 hc0
 have HB := Aside0.mk (Below.refl w.heap.size w)
 have H : (chancellaw05_refToks.l0 k l0 ([] : List (S107)) 0) = some r := h
 clear h
 have H' := Aside0.mk H
 clear H
 go_enter Tryz.func21, Tryz.ntmps21
 go_wp2
 go_loopg [3, 4] k (fun kq v3 v4 w' => ∃ (x3_1 : List (S107)) (x4_1 : Int), v4 = .int .i64 x4_1 ∧ Aside0 (chancellaw05_refToks.l0 kq l0 x3_1 x4_1 = some r) ∧ Aside0 (kq ≤ k) ∧ Aside0 (Kd.R k107 107 w' w.heap.size (fun _ => True) v3 x3_1) ∧ Aside0 (Below w.heap.size w w'))
 case atStart => exact ⟨(([] : List (S107))), (0), (by first | rfl | (simp [*]; done)), H', ⟨Nat.le_refl _⟩, ⟨by first | exact Kd.R_nil _ _ _ _ _ | exact Kd.N_nil _ _ _ _ _ | exact Kd.V_nil _ _ _ _ _ | exact Kd.Q_nil _ _ _ _ _ | exact Kd.S_nil _ _ _ _ _⟩, ⟨by repeat (first | exact HB.out | apply zqb | apply zqa | apply zqc)⟩⟩
 case round =>
  clear H'
  obtain ⟨x3_1, x4_1, rfl, HA, HK1, HO_3, HB⟩ := hrel
  cases gk with
  | zero => exact absurd HA.out (by simp [chancellaw05_refToks.l0])
  | succ k1 =>
   have H := HA.out
   clear HA
   simp only [chancellaw05_refToks.l0] at H
   by_cases c2 : x4_1 < (l0.length : Int)
   ·rw [if_pos c2] at H
    have c2b0 : decide (x4_1 < (l0.length : Int)) = true := decide_eq_true c2
    clear c2
    by_cases c3 : 0 ≤ x4_1
    ·rw [if_pos c3] at H
     have c3b0 : decide (0 ≤ x4_1) = true := decide_eq_true c3
     clear c3
     by_cases c4 : x3_1.length < 4398046511104
     ·rw [if_pos c4] at H
      have LMc4 := Aside0.mk c4
      clear c4
      obtain ⟨y324, hy324⟩ : ∃ y_ : List (S107), y_ = (x3_1 ++ [(⟨(zqw l0 x4_1).f0, (zqw l0 x4_1).f1, (zqw l0 x4_1).f2⟩ : S107)]) := ⟨_, rfl⟩
      replace H : (chancellaw05_refToks.l0 k1 l0 y324 (wrap64 (x4_1 + 1))) = some r := by first | (rw [hy324]; with_reducible exact H) | (have H2_ := (Option.bind_some _ _).symm.trans H; rw [hy324]; with_reducible exact H2_) | (have H2_ := (Option.bind_some _ _).symm.trans H; with_reducible exact H2_) | with_reducible exact H | (rw [hy324]; exact H) | exact H
      have Ny324 := Aside0.mk hy324
      clear hy324
      have H' := Aside0.mk H
      clear H
      try go_wp2
      have n0_ := Aside0.mk (Kd.R_drew HO_3.out)
      have n1_ := Aside0.mk (zqc HB.out)
      clear HO_3
      clear HB
      have HO_3 := n0_
      have HB := n1_
      clear n0_ n1_
      have p321 : 0 ≤ (x4_1 : Int) := of_decide_eq_true (by assumption)
      have q321 : x4_1 < (l0.length : Int) := of_decide_eq_true (by assumption)
      obtain ⟨ad321, e321, hx321_0, hx321_1, hx321_2⟩ := at_T106 HR0.out x4_1 p321 q321
      have hw321_2 := hx321_2
      have hw321_1 := hx321_1
      have hw321_0 := hx321_0
      cases e321
      replace hx321_0 := (HB.out.cell (World.block_lt_of_cell? w _ hx321_0)).trans hx321_0
      replace hx321_1 := (HB.out.cell (World.block_lt_of_cell? w _ hx321_1)).trans hx321_1
      replace hx321_2 := (HB.out.cell (World.block_lt_of_cell? w _ hx321_2)).trans hx321_2
      replace p321 := eq_true p321
      replace q321 := eq_true q321
      have p322 : 0 ≤ (x4_1 : Int) := of_decide_eq_true (by assumption)
      have q322 : x4_1 < (l0.length : Int) := of_decide_eq_true (by assumption)
      obtain ⟨ad322, e322, hx322_0, hx322_1, hx322_2⟩ := at_T106 HR0.out x4_1 p322 q322
      have hw322_2 := hx322_2
      have hw322_1 := hx322_1
      have hw322_0 := hx322_0
      obtain rfl : ad321 = ad322 := (by injection e322)
      replace hx322_0 := (HB.out.cell (World.block_lt_of_cell? w _ hx322_0)).trans hx322_0
      replace hx322_1 := (HB.out.cell (World.block_lt_of_cell? w _ hx322_1)).trans hx322_1
      replace hx322_2 := (HB.out.cell (World.block_lt_of_cell? w _ hx322_2)).trans hx322_2
      replace p322 := eq_true p322
      replace q322 := eq_true q322
      have p323 : 0 ≤ (x4_1 : Int) := of_decide_eq_true (by assumption)
      have q323 : x4_1 < (l0.length : Int) := of_decide_eq_true (by assumption)
      obtain ⟨ad323, e323, hx323_0, hx323_1, hx323_2⟩ := at_T106 HR0.out x4_1 p323 q323
      have hw323_2 := hx323_2
      have hw323_1 := hx323_1
      have hw323_0 := hx323_0
      obtain rfl : ad321 = ad323 := (by injection e323)
      replace hx323_0 := (HB.out.cell (World.block_lt_of_cell? w _ hx323_0)).trans hx323_0
      replace hx323_1 := (HB.out.cell (World.block_lt_of_cell? w _ hx323_1)).trans hx323_1
      replace hx323_2 := (HB.out.cell (World.block_lt_of_cell? w _ hx323_2)).trans hx323_2
      replace p323 := eq_true p323
      replace q323 := eq_true q323
      refine start_ (n := 20) (S := fun w' => w'.cell? (ad321.add ((x4_1).toNat * 3)) = some (.int .i64 ((zqw l0 x4_1).f0)) ∧ w'.cell? ⟨(ad321.add ((x4_1).toNat * 3)).block, (ad321.add ((x4_1).toNat * 3)).off + 1, none⟩ = some (.string ((zqw l0 x4_1).f1)) ∧ w'.cell? ⟨(ad321.add ((x4_1).toNat * 3)).block, (ad321.add ((x4_1).toNat * 3)).off + 2, none⟩ = some (.int .i64 ((zqw l0 x4_1).f2)) ∧ w'.cell? (ad321.add ((x4_1).toNat * 3)) = some (.int .i64 ((zqw l0 x4_1).f0)) ∧ w'.cell? ⟨(ad321.add ((x4_1).toNat * 3)).block, (ad321.add ((x4_1).toNat * 3)).off + 1, none⟩ = some (.string ((zqw l0 x4_1).f1)) ∧ w'.cell? ⟨(ad321.add ((x4_1).toNat * 3)).block, (ad321.add ((x4_1).toNat * 3)).off + 2, none⟩ = some (.int .i64 ((zqw l0 x4_1).f2)) ∧ w'.cell? (ad321.add ((x4_1).toNat * 3)) = some (.int .i64 ((zqw l0 x4_1).f0)) ∧ w'.cell? ⟨(ad321.add ((x4_1).toNat * 3)).block, (ad321.add ((x4_1).toNat * 3)).off + 1, none⟩ = some (.string ((zqw l0 x4_1).f1)) ∧ w'.cell? ⟨(ad321.add ((x4_1).toNat * 3)).block, (ad321.add ((x4_1).toNat * 3)).off + 2, none⟩ = some (.int .i64 ((zqw l0 x4_1).f2))) (ds := []) #[false, false, false, false, false, false, false, false, false, false, false, false, false, false, false, false, false, false, false, false] (by kernel_rfl) rfl rfl ⟨((HB.out.cell (World.block_lt_of_cell? w _ hw321_0)).trans hw321_0), ((HB.out.cell (World.block_lt_of_cell? w _ hw321_1)).trans hw321_1), ((HB.out.cell (World.block_lt_of_cell? w _ hw321_2)).trans hw321_2), ((HB.out.cell (World.block_lt_of_cell? w _ hw322_0)).trans hw322_0), ((HB.out.cell (World.block_lt_of_cell? w _ hw322_1)).trans hw322_1), ((HB.out.cell (World.block_lt_of_cell? w _ hw322_2)).trans hw322_2), ((HB.out.cell (World.block_lt_of_cell? w _ hw323_0)).trans hw323_0), ((HB.out.cell (World.block_lt_of_cell? w _ hw323_1)).trans hw323_1), ((HB.out.cell (World.block_lt_of_cell? w _ hw323_2)).trans hw323_2)⟩ (fun hHeld => ?_); refine with_tabW chancellaw05_refToks.tab5 chancellaw05_refToks.bits5 (fun HT_ HW_ => ?_)
      generalize wr.drew = w5 at HO_3 HB hx321_0 hx321_1 hx321_2 hx322_0 hx322_1 hx322_2 hx323_0 hx323_1 hx323_2 hHeld ⊢
      refine pure_ (i := 0) (N := some 11) (v := ?_) (a' := ?_) #[true, false, false, false, false, false, false, false, false, false, false, false, false, false, false, false, false, false, false, false] rfl rfl (any_of HT_.out (by kernel_rfl)) (fun _ _ _ h => h) (Or.inl ⟨by rfl, ?_⟩) ?_ ?_
      rotate_left
      ·intro w'
       go_simp
       with_reducible rfl
      rotate_left
      ·simp only [Act.put, List.setIfInBounds_toArray, List.set_cons_zero, List.set_cons_succ, i64_w, i32_w]
       rfl
      refine pure_ (i := 1) (N := some 12) (v := ?_) (a' := ?_) #[true, true, false, false, false, false, false, false, false, false, false, false, false, false, false, false, false, false, false, false] rfl rfl (any_of HT_.out (by kernel_rfl)) (fun _ _ _ h => h) (Or.inl ⟨by rfl, ?_⟩) ?_ ?_
      rotate_left
      ·intro w'
       go_simp
       with_reducible rfl
      rotate_left
      ·simp only [Act.put, List.setIfInBounds_toArray, List.set_cons_zero, List.set_cons_succ, i64_w, i32_w]
       rfl
      refine pure_ (i := 2) (N := some 13) (v := ?_) (a' := ?_) #[true, true, true, false, false, false, false, false, false, false, false, false, false, false, false, false, false, false, false, false] rfl rfl (any_of HT_.out (by kernel_rfl)) (fun _ _ _ h => h) (Or.inl ⟨by rfl, ?_⟩) ?_ ?_
      rotate_left
      ·intro w'
       go_simp
       with_reducible rfl
      rotate_left
      ·simp only [Act.put, List.setIfInBounds_toArray, List.set_cons_zero, List.set_cons_succ, i64_w, i32_w]
       rfl
      refine pure_ (i := 3) (N := some 14) (v := ?_) (a' := ?_) #[true, true, true, true, false, false, false, false, false, false, false, false, false, false, false, false, false, false, false, false] rfl rfl (any_of HT_.out (by kernel_rfl)) (fun _ _ _ h => h) (Or.inl ⟨by rfl, ?_⟩) ?_ ?_
      rotate_left
      ·intro w'
       go_simp
       with_reducible rfl
      rotate_left
      ·simp only [Act.put, List.setIfInBounds_toArray, List.set_cons_zero, List.set_cons_succ, i64_w, i32_w]
       rfl
      refine pure_ (i := 4) (N := some 15) (v := ?_) (a' := ?_) #[true, true, true, true, true, false, false, false, false, false, false, false, false, false, false, false, false, false, false, false] rfl rfl (any_of HT_.out (by kernel_rfl)) (fun _ _ _ h => h) (Or.inl ⟨by rfl, ?_⟩) ?_ ?_
      rotate_left
      ·intro w'
       go_simp
       with_reducible rfl
      rotate_left
      ·simp only [Act.put, List.setIfInBounds_toArray, List.set_cons_zero, List.set_cons_succ, i64_w, i32_w]
       rfl
      refine pure_ (i := 6) (N := some 17) (v := ?_) (a' := ?_) #[true, true, true, true, true, false, true, false, false, false, false, false, false, false, false, false, false, false, false, false] rfl rfl (any_of HT_.out (by kernel_rfl)) (fun _ _ _ h => h) (Or.inl ⟨by rfl, ?_⟩) ?_ ?_
      rotate_left
      ·intro w'
       go_simp
       with_reducible rfl
      rotate_left
      ·simp only [Act.put, List.setIfInBounds_toArray, List.set_cons_zero, List.set_cons_succ, i64_w, i32_w]
       rfl
      refine pure_ (i := 7) (N := some 18) (v := ?_) (a' := ?_) #[true, true, true, true, true, false, true, true, false, false, false, false, false, false, false, false, false, false, false, false] rfl rfl (any_of HT_.out (by kernel_rfl)) (fun _ _ _ h => h) (Or.inl ⟨by rfl, ?_⟩) ?_ ?_
      rotate_left
      ·intro w'
       go_simp
       with_reducible rfl
      rotate_left
      ·simp only [Act.put, List.setIfInBounds_toArray, List.set_cons_zero, List.set_cons_succ, i64_w, i32_w]
       rfl
      refine pure_ (i := 8) (N := some 19) (v := ?_) (a' := ?_) #[true, true, true, true, true, false, true, true, true, false, false, false, false, false, false, false, false, false, false, false] rfl rfl (any_of HT_.out (by kernel_rfl)) (fun _ _ _ h => h) (Or.inl ⟨by rfl, ?_⟩) ?_ ?_
      rotate_left
      ·intro w'
       go_simp
       with_reducible rfl
      rotate_left
      ·simp only [Act.put, List.setIfInBounds_toArray, List.set_cons_zero, List.set_cons_succ, i64_w, i32_w]
       rfl
      refine pure_ (i := 9) (N := some 20) (v := ?_) (a' := ?_) #[true, true, true, true, true, false, true, true, true, true, false, false, false, false, false, false, false, false, false, false] rfl rfl (any_of HT_.out (by kernel_rfl)) (fun _ _ _ h => h) (Or.inl ⟨by rfl, ?_⟩) ?_ ?_
      rotate_left
      ·intro w'
       go_simp
       with_reducible rfl
      rotate_left
      ·simp only [Act.put, List.setIfInBounds_toArray, List.set_cons_zero, List.set_cons_succ, i64_w, i32_w]
       rfl
      refine pure_ (i := 11) (N := some 22) (v := ?_) (a' := ?_) #[true, true, true, true, true, false, true, true, true, true, false, true, false, false, false, false, false, false, false, false] rfl rfl (any_of HT_.out (by kernel_rfl)) (fun _ _ _ h => h) (Or.inl ⟨by rfl, ?_⟩) ?_ ?_
      rotate_left
      ·intro w'
       go_simp
       with_reducible rfl
      rotate_left
      ·simp only [Act.put, List.setIfInBounds_toArray, List.set_cons_zero, List.set_cons_succ, i64_w, i32_w]
       rfl
      refine pure_ (i := 12) (N := some 23) (v := ?_) (a' := ?_) #[true, true, true, true, true, false, true, true, true, true, false, true, true, false, false, false, false, false, false, false] rfl rfl (any_of HT_.out (by kernel_rfl)) (fun _ _ _ h => h) (Or.inl ⟨by rfl, ?_⟩) ?_ ?_
      rotate_left
      ·intro w'
       go_simp
       with_reducible rfl
      rotate_left
      ·simp only [Act.put, List.setIfInBounds_toArray, List.set_cons_zero, List.set_cons_succ, i64_w, i32_w]
       rfl
      refine pure_ (i := 13) (N := some 24) (v := ?_) (a' := ?_) #[true, true, true, true, true, false, true, true, true, true, false, true, true, true, false, false, false, false, false, false] rfl rfl (any_of HT_.out (by kernel_rfl)) (fun _ _ _ h => h) (Or.inl ⟨by rfl, ?_⟩) ?_ ?_
      rotate_left
      ·intro w'
       go_simp
       with_reducible rfl
      rotate_left
      ·simp only [Act.put, List.setIfInBounds_toArray, List.set_cons_zero, List.set_cons_succ, i64_w, i32_w]
       rfl
      refine pure_ (i := 14) (N := some 25) (v := ?_) (a' := ?_) #[true, true, true, true, true, false, true, true, true, true, false, true, true, true, true, false, false, false, false, false] rfl rfl (any_of HT_.out (by kernel_rfl)) (fun _ _ _ h => h) (Or.inl ⟨by rfl, ?_⟩) ?_ ?_
      rotate_left
      ·intro w'
       go_simp
       with_reducible rfl
      rotate_left
      ·simp only [Act.put, List.setIfInBounds_toArray, List.set_cons_zero, List.set_cons_succ, i64_w, i32_w]
       rfl
      refine take_ (i := 5) (N := some 16) (v := ?_) (a' := ?_) #[true, true, true, true, true, true, true, true, true, true, false, true, true, true, true, false, false, false, false, false] rfl rfl (take_ofW HT_.out HW_.out (by kernel_rfl)) (fun _ _ _ h => h) (Or.inl ⟨by rfl, ?_⟩) hHeld ?_ ?_
      rotate_left
      ·rintro w' ⟨s0, s1, s2, s3, s4, s5, s6, s7, s8⟩
       go_simp
       with_reducible rfl
      rotate_left
      ·simp only [Act.put, List.setIfInBounds_toArray, List.set_cons_zero, List.set_cons_succ, i64_w, i32_w]
       rfl
      refine take_ (i := 10) (N := some 21) (v := ?_) (a' := ?_) #[true, true, true, true, true, true, true, true, true, true, true, true, true, true, true, false, false, false, false, false] rfl rfl (take_ofW HT_.out HW_.out (by kernel_rfl)) (fun _ _ _ h => h) (Or.inl ⟨by rfl, ?_⟩) hHeld ?_ ?_
      rotate_left
      ·rintro w' ⟨s0, s1, s2, s3, s4, s5, s6, s7, s8⟩
       go_simp
       with_reducible rfl
      rotate_left
      ·simp only [Act.put, List.setIfInBounds_toArray, List.set_cons_zero, List.set_cons_succ, i64_w, i32_w]
       rfl
      refine take_ (i := 15) (N := some 26) (v := ?_) (a' := ?_) #[true, true, true, true, true, true, true, true, true, true, true, true, true, true, true, true, false, false, false, false] rfl rfl (take_ofW HT_.out HW_.out (by kernel_rfl)) (fun _ _ _ h => h) (Or.inl ⟨by rfl, ?_⟩) hHeld ?_ ?_
      rotate_left
      ·rintro w' ⟨s0, s1, s2, s3, s4, s5, s6, s7, s8⟩
       go_simp
       with_reducible rfl
      rotate_left
      ·simp only [Act.put, List.setIfInBounds_toArray, List.set_cons_zero, List.set_cons_succ, i64_w, i32_w]
       rfl
      refine pure_ (i := 16) (N := some 27) (v := ?_) (a' := ?_) #[true, true, true, true, true, true, true, true, true, true, true, true, true, true, true, true, true, false, false, false] rfl rfl (any_of HT_.out (by kernel_rfl)) (fun _ _ _ h => h) (Or.inl ⟨by rfl, ?_⟩) ?_ ?_
      rotate_left
      ·intro w'
       go_simp
       with_reducible rfl
      rotate_left
      ·simp only [Act.put, List.setIfInBounds_toArray, List.set_cons_zero, List.set_cons_succ, i64_w, i32_w]
       rfl
      refine one_ (i := 17) (N := some 28) #[true, true, true, true, true, true, true, true, true, true, true, true, true, true, true, true, true, true, false, false] rfl rfl (one_of HT_.out (by kernel_rfl)) (by decide) (fun K hK => ?_)
      refine value_ (w1 := ?_) (v := ?_) (by rfl) rfl ?_ ?_
      rotate_left 2
      ·go_simp
       constructor
       ·rfl
       ·rfl
      refine hK.out _ _ ⟨(World.cell?_alloc_lt _ _ _ (World.block_lt_of_cell? _ _ (((HB.out.cell (World.block_lt_of_cell? w _ hw321_0)).trans hw321_0)))).trans (((HB.out.cell (World.block_lt_of_cell? w _ hw321_0)).trans hw321_0)), (World.cell?_alloc_lt _ _ _ (World.block_lt_of_cell? _ _ (((HB.out.cell (World.block_lt_of_cell? w _ hw321_1)).trans hw321_1)))).trans (((HB.out.cell (World.block_lt_of_cell? w _ hw321_1)).trans hw321_1)), (World.cell?_alloc_lt _ _ _ (World.block_lt_of_cell? _ _ (((HB.out.cell (World.block_lt_of_cell? w _ hw321_2)).trans hw321_2)))).trans (((HB.out.cell (World.block_lt_of_cell? w _ hw321_2)).trans hw321_2)), (World.cell?_alloc_lt _ _ _ (World.block_lt_of_cell? _ _ (((HB.out.cell (World.block_lt_of_cell? w _ hw322_0)).trans hw322_0)))).trans (((HB.out.cell (World.block_lt_of_cell? w _ hw322_0)).trans hw322_0)), (World.cell?_alloc_lt _ _ _ (World.block_lt_of_cell? _ _ (((HB.out.cell (World.block_lt_of_cell? w _ hw322_1)).trans hw322_1)))).trans (((HB.out.cell (World.block_lt_of_cell? w _ hw322_1)).trans hw322_1)), (World.cell?_alloc_lt _ _ _ (World.block_lt_of_cell? _ _ (((HB.out.cell (World.block_lt_of_cell? w _ hw322_2)).trans hw322_2)))).trans (((HB.out.cell (World.block_lt_of_cell? w _ hw322_2)).trans hw322_2)), (World.cell?_alloc_lt _ _ _ (World.block_lt_of_cell? _ _ (((HB.out.cell (World.block_lt_of_cell? w _ hw323_0)).trans hw323_0)))).trans (((HB.out.cell (World.block_lt_of_cell? w _ hw323_0)).trans hw323_0)), (World.cell?_alloc_lt _ _ _ (World.block_lt_of_cell? _ _ (((HB.out.cell (World.block_lt_of_cell? w _ hw323_1)).trans hw323_1)))).trans (((HB.out.cell (World.block_lt_of_cell? w _ hw323_1)).trans hw323_1)), (World.cell?_alloc_lt _ _ _ (World.block_lt_of_cell? _ _ (((HB.out.cell (World.block_lt_of_cell? w _ hw323_2)).trans hw323_2)))).trans (((HB.out.cell (World.block_lt_of_cell? w _ hw323_2)).trans hw323_2))⟩ (fun hHeld => ?_)
      clear hK K
      refine norm_ (a' := ?_) ?_ ?_
      rotate_left
      ·show Act.put _ (some 28) _ = _
       simp only [Act.put, List.setIfInBounds_toArray, List.set_cons_zero, List.set_cons_succ, i64_w, i32_w]
       rfl
      refine one_ (i := 18) (N := some 29) #[true, true, true, true, true, true, true, true, true, true, true, true, true, true, true, true, true, true, true, false] rfl rfl (one_of HT_.out (by kernel_rfl)) (by decide) (fun K hK => ?_)
      refine Kd.R_append_step k107 (w0 := w) w.heap.size (by rfl) (.tmp 11) (.tmp 28) 35 107 (.agg #[(.int .i64 0), (.string ⟨#[]⟩), (.int .i64 0)]) 32 rfl Tryz.underlying35 info107 rfl (by decide) (by omega) u3 x3_1 (⟨(zqw l0 x4_1).f0, (zqw l0 x4_1).f1, (zqw l0 x4_1).f2⟩ : S107) [.int .i64 ((zqw l0 x4_1).f0), .string ((zqw l0 x4_1).f1), .int .i64 ((zqw l0 x4_1).f2)] (fun _ => True) (fun _ => False) rfl rfl ?aP (fun _ hk => hk.elim) ?aF ?aO ?aB ?aS ?aL ?_
      (case aP => exact k107_mkM _ _ _ (⟨(zqw l0 x4_1).f0, (zqw l0 x4_1).f1, (zqw l0 x4_1).f2⟩ : S107))
      (case aB => exact (by repeat (first | exact HB.out | apply zqb | apply zqa | apply zqc)))
      (case aF => exact (fun _ _ => trivial))
      (case aO => exact (by (with_reducible repeat (first | apply Kd.R_alloc | apply Kd.R_drewN | apply Kd.R_drew)); exact HO_3.out))
      (case aS => exact (zqj (by repeat (first | exact HB.out | apply zqb | apply zqa | apply zqc))))
      (case aL => have := LMc4.out; omega)
      intro v325 w6 ho hb hg hat
      rw [← Ny324.out] at ho
      have n0_ := Aside0.mk (hb)
      have n1_ := Aside0.mk (ho)
      clear HB
      clear HO_3
      have HB := n0_
      have HO326 := n1_
      clear n0_ n1_
      clear ho hb hg hat
      refine hK.out _ _ ⟨((HB.out.cell (World.block_lt_of_cell? w _ hw321_0)).trans hw321_0), ((HB.out.cell (World.block_lt_of_cell? w _ hw321_1)).trans hw321_1), ((HB.out.cell (World.block_lt_of_cell? w _ hw321_2)).trans hw321_2), ((HB.out.cell (World.block_lt_of_cell? w _ hw322_0)).trans hw322_0), ((HB.out.cell (World.block_lt_of_cell? w _ hw322_1)).trans hw322_1), ((HB.out.cell (World.block_lt_of_cell? w _ hw322_2)).trans hw322_2), ((HB.out.cell (World.block_lt_of_cell? w _ hw323_0)).trans hw323_0), ((HB.out.cell (World.block_lt_of_cell? w _ hw323_1)).trans hw323_1), ((HB.out.cell (World.block_lt_of_cell? w _ hw323_2)).trans hw323_2)⟩ (fun hHeld => ?_)
      clear hK K
      refine norm_ (a' := ?_) ?_ ?_
      rotate_left
      ·show Act.put _ (some 29) _ = _
       simp only [Act.put, List.setIfInBounds_toArray, List.set_cons_zero, List.set_cons_succ, i64_w, i32_w]
       rfl
      refine pure_ (i := 19) (N := some 3) (v := ?_) (a' := ?_) #[true, true, true, true, true, true, true, true, true, true, true, true, true, true, true, true, true, true, true, true] rfl rfl (any_of HT_.out (by kernel_rfl)) (fun _ _ _ h => h) (Or.inl ⟨by rfl, ?_⟩) ?_ ?_
      rotate_left
      ·intro w'
       go_simp
       with_reducible rfl
      rotate_left
      ·simp only [Act.put, List.setIfInBounds_toArray, List.set_cons_zero, List.set_cons_succ, i64_w, i32_w]
       rfl
      refine done_ (done_of HT_.out (by kernel_rfl)) ?_
      try go_wp2
      go_roundg k1
      case measure => have := HK1.out; omega
      case rel => exact ⟨(y324), (wrap64 (x4_1 + 1)), (by first | rfl | (simp [*]; done)), H', ⟨by have := HK1.out; omega⟩, ⟨by (with_reducible repeat (first | apply Kd.R_alloc | apply Kd.R_drewN | apply Kd.R_drew)); exact HO326.out⟩, ⟨by repeat (first | exact HB.out | apply zqb | apply zqa | apply zqc)⟩⟩
     ·rw [if_neg c4] at H
      exact absurd H (by simp)
    ·rw [if_neg c3] at H
     exact absurd H (by simp)
   ·rw [if_neg c2] at H
    have c2b0 : decide (x4_1 < (l0.length : Int)) = false := decide_eq_false c2
    clear c2
    obtain rfl := Option.some.inj H
    go_wp2
    go_ret
    exact ⟨_, by first | rfl | (simp [zqm, zql] <;> rfl) | (simp [*, zqm, zql] <;> rfl), by (with_reducible repeat (first | apply Kd.R_alloc | apply Kd.R_drewN | apply Kd.R_drew)); exact HO_3.out, by repeat (first | exact HB.out | apply zqb | apply zqa | apply zqc)⟩
end Go.Proofs.YtchekgnacodolaaGreatDoor.X
end
section
namespace Go.Proofs.YtchekgnacodolaaGreatDoor.X
open Go.RowKit Go.Proofs.YtchekgnacodolaaGreatDoorW.PrintWords Go.Proofs.YtchekgnacodolaaGreatDoorW.PrintLast Go.Proofs.YtchekgnacodolaaGreatDoorW.PrintMore
attribute [local go_sem] zqK zqL max_two min_two zqB zqC zqI zqJ
set_option linter.unusedVariables false
set_option linter.unusedSimpArgs false
mutual
def chancelref05_nested.l0 : Nat → List (S107) → Int → Int → Int → Option (Int)
 | 0, _, _, _, _ => none
 | k + 1, x0, x3, x4, x5 => if x5 < (x0.length : Int) then (if 0 ≤ x5 then (if ((zqy x0 x5).f0) = 4 then (chancelref05_nested.j1 k x0 x3 x4 x5 (((zqy x0 x5).f1).toList == ([40] : List UInt8))) else (chancelref05_nested.j1 k x0 x3 x4 x5 false)) else (none)) else (some x4)
def chancelref05_nested.j1 : Nat → List (S107) → Int → Int → Int → Bool → Option (Int)
 | 0, _, _, _, _, _ => none
 | k + 1, x0, x3, x4, x5, x25 => if x25 = true then (if 0 ≤ x5 then (if x5 < (x0.length : Int) then (if ((zqy x0 x5).f0) = 4 then (if ((zqy x0 x5).f1).toList = ([41] : List UInt8) then (chancelref05_nested.l0 k x0 (wrap64 ((wrap64 (x3 + 1)) - 1)) (mx x4 (wrap64 ((wrap64 (x3 + 1)) - 1))) (wrap64 (x5 + 1))) else (chancelref05_nested.l0 k x0 (wrap64 (x3 + 1)) (mx x4 (wrap64 (x3 + 1))) (wrap64 (x5 + 1)))) else (chancelref05_nested.l0 k x0 (wrap64 (x3 + 1)) (mx x4 (wrap64 (x3 + 1))) (wrap64 (x5 + 1)))) else (none)) else (none)) else (if 0 ≤ x5 then (if x5 < (x0.length : Int) then (if ((zqy x0 x5).f0) = 4 then (if ((zqy x0 x5).f1).toList = ([41] : List UInt8) then (chancelref05_nested.l0 k x0 (wrap64 (x3 - 1)) (mx x4 (wrap64 (x3 - 1))) (wrap64 (x5 + 1))) else (chancelref05_nested.l0 k x0 x3 (mx x4 x3) (wrap64 (x5 + 1)))) else (chancelref05_nested.l0 k x0 x3 (mx x4 x3) (wrap64 (x5 + 1)))) else (none)) else (none))
end
def chancelref05_nested.f (k : Nat) (l0 : List (S107)) : Option (Int) := chancelref05_nested.l0 k l0 0 0 0
theorem chancelref05_nested.mono_l : ∀ k, (∀ y0 y1 y2 y3, LeO (chancelref05_nested.l0 k y0 y1 y2 y3) (chancelref05_nested.l0 (k + 1) y0 y1 y2 y3)) ∧ (∀ y0 y1 y2 y3 y4, LeO (chancelref05_nested.j1 k y0 y1 y2 y3 y4) (chancelref05_nested.j1 (k + 1) y0 y1 y2 y3 y4))
 | 0 => ⟨fun _ _ _ _ r h => by simp [chancelref05_nested.l0] at h, fun _ _ _ _ _ r h => by simp [chancelref05_nested.j1] at h⟩
 | k + 1 => by
  obtain ⟨ih0, ih1⟩ := chancelref05_nested.mono_l k
  refine ⟨?_, ?_⟩
  ·intro y0 y1 y2 y3
   unfold chancelref05_nested.l0
   repeat' first
   | (with_reducible exact ih0 _ _ _ _)
   | (with_reducible exact ih1 _ _ _ _ _)
   | (with_reducible exact LeO.refl _)
   | (with_reducible exact LeO.none _)
   | (with_reducible refine LeO.ite ?_ ?_)
   | (with_reducible refine LeO.bind ?_ (fun _ => ?_))
   | exact ih0 _ _ _ _
   | exact ih1 _ _ _ _ _
   | exact LeO.none _
   | refine LeO.ite ?_ ?_
   | refine LeO.bind ?_ (fun _ => ?_)
  ·intro y0 y1 y2 y3 y4
   unfold chancelref05_nested.j1
   repeat' first
   | (with_reducible exact ih0 _ _ _ _)
   | (with_reducible exact ih1 _ _ _ _ _)
   | (with_reducible exact LeO.refl _)
   | (with_reducible exact LeO.none _)
   | (with_reducible refine LeO.ite ?_ ?_)
   | (with_reducible refine LeO.bind ?_ (fun _ => ?_))
   | exact ih0 _ _ _ _
   | exact ih1 _ _ _ _ _
   | exact LeO.none _
   | refine LeO.ite ?_ ?_
   | refine LeO.bind ?_ (fun _ => ?_)
theorem chancelref05_nested.mono : ∀ a0 k, LeO (chancelref05_nested.f k a0) (chancelref05_nested.f (k + 1) a0) := by
 intro a0 k
 obtain ⟨ih0, ih1⟩ := chancelref05_nested.mono_l k
 unfold chancelref05_nested.f
 repeat' first
   | (with_reducible exact ih0 _ _ _ _)
   | (with_reducible exact ih1 _ _ _ _ _)
   | (with_reducible exact LeO.refl _)
   | (with_reducible exact LeO.none _)
   | (with_reducible refine LeO.ite ?_ ?_)
   | (with_reducible refine LeO.bind ?_ (fun _ => ?_))
   | exact ih0 _ _ _ _
   | exact ih1 _ _ _ _ _
   | exact LeO.none _
   | refine LeO.ite ?_ ?_
   | refine LeO.bind ?_ (fun _ => ?_)
theorem chancelref05_nested.calls (k : Nat) (A0 : Option Addr) (c0 : Nat) (l0 : List (S107)) (r : Int) (w : World) (hr0 : Kd.C k107 w A0 l0.length l0) (hc0 : l0.length ≤ c0) (h : chancelref05_nested.f k l0 = some r) :
  Calls Tryz.prog 54 #[.slice A0 l0.length c0] w fun e w' => e = .returned (.int .i64 r) ∧ Below w.heap.size w w' := by
 have HR0 := Aside0.mk hr0
 have HC0 := Aside0.mk hc0
 clear hr0 hc0
 have HB := Aside0.mk (Below.refl w.heap.size w)
 have H : (chancelref05_nested.l0 k l0 0 0 0) = some r := h
 clear h
 have H' := Aside0.mk H
 clear H
 go_enter Tryz.func54, Tryz.ntmps54
 go_wp2
 go_loopg [3, 4, 5] k (fun kq v3 v4 v5 w' => ∃ (x3_1 : Int) (x4_1 : Int) (x5_1 : Int), v3 = .int .i64 x3_1 ∧ v4 = .int .i64 x4_1 ∧ v5 = .int .i64 x5_1 ∧ Aside0 (chancelref05_nested.l0 kq l0 x3_1 x4_1 x5_1 = some r) ∧ Aside0 (kq ≤ k) ∧ Aside0 (Below w.heap.size w w'))
 case atStart => exact ⟨(0), (0), (0), (by first | rfl | (simp [*]; done)), (by first | rfl | (simp [*]; done)), (by first | rfl | (simp [*]; done)), H', ⟨Nat.le_refl _⟩, ⟨by repeat (first | exact HB.out | apply zqb | apply zqa | apply zqc)⟩⟩
 case round =>
  clear H'
  obtain ⟨x3_1, x4_1, x5_1, rfl, rfl, rfl, HA, HK1, HB⟩ := hrel
  cases gk with
  | zero => exact absurd HA.out (by simp [chancelref05_nested.l0])
  | succ k1 =>
   have H := HA.out
   clear HA
   simp only [chancelref05_nested.l0] at H
   by_cases c2 : x5_1 < (l0.length : Int)
   ·rw [if_pos c2] at H
    have c2b0 : decide (x5_1 < (l0.length : Int)) = true := decide_eq_true c2
    clear c2
    have HC3 := Aside0.mk H
    clear H
    go_upto_region 6 with (fail)
    go_cut [25] (fun v25 wc => ∃ (kq : Nat) (x25_2 : Bool), v25 = .bool x25_2 ∧ Aside0 (chancelref05_nested.j1 kq l0 x3_1 x4_1 x5_1 x25_2 = some r) ∧ Aside0 (kq ≤ k1) ∧ Aside0 (Below w.heap.size w wc))
    case first =>
     have H := HC3.out
     clear HC3
     by_cases c4 : 0 ≤ x5_1
     ·rw [if_pos c4] at H
      have c4b0 : decide (0 ≤ x5_1) = true := decide_eq_true c4
      clear c4
      (first | rw [c4b0] | (simp only [i64_w, i32_w]; rw [c4b0]) | skip)
      by_cases c5 : ((zqy l0 x5_1).f0) = 4
      ·rw [if_pos c5] at H
       have c5b0 : (((zqy l0 x5_1).f0) == 4) = true := beq_iff_eq.mpr c5
       have c5b1 : (((zqy l0 x5_1).f0) != 4) = false := bne_eq_false_iff_eq.mpr c5
       clear c5
       have H' := Aside0.mk H
       clear H
       have p268 : 0 ≤ (x5_1 : Int) := of_decide_eq_true (by assumption)
       have q268 : x5_1 < (l0.length : Int) := of_decide_eq_true (by assumption)
       obtain ⟨ad268, e268, hx268_0, hx268_1, hx268_2⟩ := at_T107 HR0.out x5_1 p268 q268
       cases e268
       replace hx268_0 := (HB.out.cell (World.block_lt_of_cell? w _ hx268_0)).trans hx268_0
       replace hx268_1 := (HB.out.cell (World.block_lt_of_cell? w _ hx268_1)).trans hx268_1
       replace hx268_2 := (HB.out.cell (World.block_lt_of_cell? w _ hx268_2)).trans hx268_2
       replace p268 := eq_true p268
       replace q268 := eq_true q268
       have p269 : 0 ≤ (x5_1 : Int) := of_decide_eq_true (by assumption)
       have q269 : x5_1 < (l0.length : Int) := of_decide_eq_true (by assumption)
       obtain ⟨ad269, e269, hx269_0, hx269_1, hx269_2⟩ := at_T107 HR0.out x5_1 p269 q269
       obtain rfl : ad268 = ad269 := (by injection e269)
       replace hx269_0 := (HB.out.cell (World.block_lt_of_cell? w _ hx269_0)).trans hx269_0
       replace hx269_1 := (HB.out.cell (World.block_lt_of_cell? w _ hx269_1)).trans hx269_1
       replace hx269_2 := (HB.out.cell (World.block_lt_of_cell? w _ hx269_2)).trans hx269_2
       replace p269 := eq_true p269
       replace q269 := eq_true q269
       go_wp2
       go_meet
       case rel => exact ⟨_, ((((zqy l0 x5_1).f1).toList == ([40] : List UInt8))), (by first | rfl | (simp [*]; done)), H', ⟨by have := HK1.out; first | omega | exact Nat.le_refl _⟩, ⟨by repeat (first | exact HB.out | apply zqb | apply zqa | apply zqc)⟩⟩
      ·rw [if_neg c5] at H
       have c5b0 : (((zqy l0 x5_1).f0) == 4) = false := beq_eq_false_iff_ne.mpr c5
       have c5b1 : (((zqy l0 x5_1).f0) != 4) = true := bne_iff_ne.mpr c5
       have H' := Aside0.mk H
       clear H
       have p268 : 0 ≤ (x5_1 : Int) := of_decide_eq_true (by assumption)
       have q268 : x5_1 < (l0.length : Int) := of_decide_eq_true (by assumption)
       obtain ⟨ad268, e268, hx268_0, hx268_1, hx268_2⟩ := at_T107 HR0.out x5_1 p268 q268
       cases e268
       replace hx268_0 := (HB.out.cell (World.block_lt_of_cell? w _ hx268_0)).trans hx268_0
       replace hx268_1 := (HB.out.cell (World.block_lt_of_cell? w _ hx268_1)).trans hx268_1
       replace hx268_2 := (HB.out.cell (World.block_lt_of_cell? w _ hx268_2)).trans hx268_2
       replace p268 := eq_true p268
       replace q268 := eq_true q268
       go_wp2
       go_meet
       case rel => exact ⟨_, (false), (by first | rfl | (simp [*]; done)), H', ⟨by have := HK1.out; first | omega | exact Nat.le_refl _⟩, ⟨by repeat (first | exact HB.out | apply zqb | apply zqa | apply zqc)⟩⟩
     ·rw [if_neg c4] at H
      exact absurd H (by simp)
    case rest =>
     clear HC3
     try clear c2
     try clear c2b0
     try clear p2
     try clear q2
     try clear hx2
     try clear c4
     try clear c4b0
     try clear c5
     try clear c5b0
     try clear c5b1
     try clear hx268_0
     try clear hx268_1
     try clear hx268_2
     try clear hx269_0
     try clear hx269_1
     try clear hx269_2
     try clear p268
     try clear p269
     try clear q268
     try clear q269
     obtain ⟨kq, x25_2, rfl, HA, HJ2, HB⟩ := hcut
     cases kq with
     | zero => exact absurd HA.out (by simp [chancelref05_nested.j1])
     | succ kj2 =>
      have H := HA.out
      clear HA
      simp only [chancelref05_nested.j1] at H
      by_cases c6 : x25_2 = true
      ·subst c6
       have H1 : (if 0 ≤ x5_1 then (if x5_1 < (l0.length : Int) then (if ((zqy l0 x5_1).f0) = 4 then (if ((zqy l0 x5_1).f1).toList = ([41] : List UInt8) then (chancelref05_nested.l0 kj2 l0 (wrap64 ((wrap64 (x3_1 + 1)) - 1)) (mx x4_1 (wrap64 ((wrap64 (x3_1 + 1)) - 1))) (wrap64 (x5_1 + 1))) else (chancelref05_nested.l0 kj2 l0 (wrap64 (x3_1 + 1)) (mx x4_1 (wrap64 (x3_1 + 1))) (wrap64 (x5_1 + 1)))) else (chancelref05_nested.l0 kj2 l0 (wrap64 (x3_1 + 1)) (mx x4_1 (wrap64 (x3_1 + 1))) (wrap64 (x5_1 + 1)))) else (none)) else (none)) = some r := by rw [if_pos rfl] at H; exact H
       clear H
       have H := H1
       clear H1
       by_cases c7 : 0 ≤ x5_1
       ·rw [if_pos c7] at H
        have c7b0 : decide (0 ≤ x5_1) = true := decide_eq_true c7
        clear c7
        by_cases c8 : x5_1 < (l0.length : Int)
        ·rw [if_pos c8] at H
         have c8b0 : decide (x5_1 < (l0.length : Int)) = true := decide_eq_true c8
         clear c8
         by_cases c9 : ((zqy l0 x5_1).f0) = 4
         ·rw [if_pos c9] at H
          have c9b0 : (((zqy l0 x5_1).f0) == 4) = true := beq_iff_eq.mpr c9
          have c9b1 : (((zqy l0 x5_1).f0) != 4) = false := bne_eq_false_iff_eq.mpr c9
          clear c9
          by_cases c10 : ((zqy l0 x5_1).f1).toList = ([41] : List UInt8)
          ·rw [if_pos c10] at H
           have c10b0 : (((zqy l0 x5_1).f1).toList == ([41] : List UInt8)) = true := beq_iff_eq.mpr c10
           have c10b1 : (((zqy l0 x5_1).f1).toList != ([41] : List UInt8)) = false := bne_eq_false_iff_eq.mpr c10
           clear c10
           obtain ⟨ji11, hji11⟩ : ∃ j_ : Int, (mx x4_1 (wrap64 ((wrap64 (x3_1 + 1)) - 1))) = j_ := ⟨_, rfl⟩
           replace H : (chancelref05_nested.l0 kj2 l0 (wrap64 ((wrap64 (x3_1 + 1)) - 1)) ji11 (wrap64 (x5_1 + 1))) = some r := by first | (rw [hji11] at H; exact H) | (simp only [hji11] at H ⊢; exact H)
           have hji11_ : (if x4_1 < (wrap64 ((wrap64 (x3_1 + 1)) - 1)) then (wrap64 ((wrap64 (x3_1 + 1)) - 1)) else x4_1) = ji11 := hji11
           have H' := Aside0.mk H
           clear H
           have p270 : 0 ≤ (x5_1 : Int) := of_decide_eq_true (by assumption)
           have q270 : x5_1 < (l0.length : Int) := of_decide_eq_true (by assumption)
           obtain ⟨ad270, e270, hx270_0, hx270_1, hx270_2⟩ := at_T107 HR0.out x5_1 p270 q270
           cases e270
           replace hx270_0 := (HB.out.cell (World.block_lt_of_cell? w _ hx270_0)).trans hx270_0
           replace hx270_1 := (HB.out.cell (World.block_lt_of_cell? w _ hx270_1)).trans hx270_1
           replace hx270_2 := (HB.out.cell (World.block_lt_of_cell? w _ hx270_2)).trans hx270_2
           replace p270 := eq_true p270
           replace q270 := eq_true q270
           have p271 : 0 ≤ (x5_1 : Int) := of_decide_eq_true (by assumption)
           have q271 : x5_1 < (l0.length : Int) := of_decide_eq_true (by assumption)
           obtain ⟨ad271, e271, hx271_0, hx271_1, hx271_2⟩ := at_T107 HR0.out x5_1 p271 q271
           obtain rfl : ad270 = ad271 := (by injection e271)
           replace hx271_0 := (HB.out.cell (World.block_lt_of_cell? w _ hx271_0)).trans hx271_0
           replace hx271_1 := (HB.out.cell (World.block_lt_of_cell? w _ hx271_1)).trans hx271_1
           replace hx271_2 := (HB.out.cell (World.block_lt_of_cell? w _ hx271_2)).trans hx271_2
           replace p271 := eq_true p271
           replace q271 := eq_true q271
           go_wp2
           go_roundg kj2
           case measure => have := HK1.out; have := HJ2.out; omega
           case rel => exact ⟨(wrap64 ((wrap64 (x3_1 + 1)) - 1)), (ji11), (wrap64 (x5_1 + 1)), (by first | rfl | (simp [*]; done)), (by first | rfl | (simp; done) | (simp only [← hji11] <;> (first | rfl | simp)) | (simp [*]; done)), (by first | rfl | (simp [*]; done)), H', ⟨by have := HK1.out; have := HJ2.out; omega⟩, ⟨by repeat (first | exact HB.out | apply zqb | apply zqa | apply zqc)⟩⟩
          ·rw [if_neg c10] at H
           have c10b0 : (((zqy l0 x5_1).f1).toList == ([41] : List UInt8)) = false := beq_eq_false_iff_ne.mpr c10
           have c10b1 : (((zqy l0 x5_1).f1).toList != ([41] : List UInt8)) = true := bne_iff_ne.mpr c10
           obtain ⟨ji12, hji12⟩ : ∃ j_ : Int, (mx x4_1 (wrap64 (x3_1 + 1))) = j_ := ⟨_, rfl⟩
           replace H : (chancelref05_nested.l0 kj2 l0 (wrap64 (x3_1 + 1)) ji12 (wrap64 (x5_1 + 1))) = some r := by first | (rw [hji12] at H; exact H) | (simp only [hji12] at H ⊢; exact H)
           have hji12_ : (if x4_1 < (wrap64 (x3_1 + 1)) then (wrap64 (x3_1 + 1)) else x4_1) = ji12 := hji12
           have H' := Aside0.mk H
           clear H
           have p270 : 0 ≤ (x5_1 : Int) := of_decide_eq_true (by assumption)
           have q270 : x5_1 < (l0.length : Int) := of_decide_eq_true (by assumption)
           obtain ⟨ad270, e270, hx270_0, hx270_1, hx270_2⟩ := at_T107 HR0.out x5_1 p270 q270
           cases e270
           replace hx270_0 := (HB.out.cell (World.block_lt_of_cell? w _ hx270_0)).trans hx270_0
           replace hx270_1 := (HB.out.cell (World.block_lt_of_cell? w _ hx270_1)).trans hx270_1
           replace hx270_2 := (HB.out.cell (World.block_lt_of_cell? w _ hx270_2)).trans hx270_2
           replace p270 := eq_true p270
           replace q270 := eq_true q270
           have p271 : 0 ≤ (x5_1 : Int) := of_decide_eq_true (by assumption)
           have q271 : x5_1 < (l0.length : Int) := of_decide_eq_true (by assumption)
           obtain ⟨ad271, e271, hx271_0, hx271_1, hx271_2⟩ := at_T107 HR0.out x5_1 p271 q271
           obtain rfl : ad270 = ad271 := (by injection e271)
           replace hx271_0 := (HB.out.cell (World.block_lt_of_cell? w _ hx271_0)).trans hx271_0
           replace hx271_1 := (HB.out.cell (World.block_lt_of_cell? w _ hx271_1)).trans hx271_1
           replace hx271_2 := (HB.out.cell (World.block_lt_of_cell? w _ hx271_2)).trans hx271_2
           replace p271 := eq_true p271
           replace q271 := eq_true q271
           go_wp2
           go_roundg kj2
           case measure => have := HK1.out; have := HJ2.out; omega
           case rel => exact ⟨(wrap64 (x3_1 + 1)), (ji12), (wrap64 (x5_1 + 1)), (by first | rfl | (simp [*]; done)), (by first | rfl | (simp; done) | (simp only [← hji12] <;> (first | rfl | simp)) | (simp [*]; done)), (by first | rfl | (simp [*]; done)), H', ⟨by have := HK1.out; have := HJ2.out; omega⟩, ⟨by repeat (first | exact HB.out | apply zqb | apply zqa | apply zqc)⟩⟩
         ·rw [if_neg c9] at H
          have c9b0 : (((zqy l0 x5_1).f0) == 4) = false := beq_eq_false_iff_ne.mpr c9
          have c9b1 : (((zqy l0 x5_1).f0) != 4) = true := bne_iff_ne.mpr c9
          obtain ⟨ji13, hji13⟩ : ∃ j_ : Int, (mx x4_1 (wrap64 (x3_1 + 1))) = j_ := ⟨_, rfl⟩
          replace H : (chancelref05_nested.l0 kj2 l0 (wrap64 (x3_1 + 1)) ji13 (wrap64 (x5_1 + 1))) = some r := by first | (rw [hji13] at H; exact H) | (simp only [hji13] at H ⊢; exact H)
          have hji13_ : (if x4_1 < (wrap64 (x3_1 + 1)) then (wrap64 (x3_1 + 1)) else x4_1) = ji13 := hji13
          have H' := Aside0.mk H
          clear H
          have p270 : 0 ≤ (x5_1 : Int) := of_decide_eq_true (by assumption)
          have q270 : x5_1 < (l0.length : Int) := of_decide_eq_true (by assumption)
          obtain ⟨ad270, e270, hx270_0, hx270_1, hx270_2⟩ := at_T107 HR0.out x5_1 p270 q270
          cases e270
          replace hx270_0 := (HB.out.cell (World.block_lt_of_cell? w _ hx270_0)).trans hx270_0
          replace hx270_1 := (HB.out.cell (World.block_lt_of_cell? w _ hx270_1)).trans hx270_1
          replace hx270_2 := (HB.out.cell (World.block_lt_of_cell? w _ hx270_2)).trans hx270_2
          replace p270 := eq_true p270
          replace q270 := eq_true q270
          go_wp2
          go_roundg kj2
          case measure => have := HK1.out; have := HJ2.out; omega
          case rel => exact ⟨(wrap64 (x3_1 + 1)), (ji13), (wrap64 (x5_1 + 1)), (by first | rfl | (simp [*]; done)), (by first | rfl | (simp; done) | (simp only [← hji13] <;> (first | rfl | simp)) | (simp [*]; done)), (by first | rfl | (simp [*]; done)), H', ⟨by have := HK1.out; have := HJ2.out; omega⟩, ⟨by repeat (first | exact HB.out | apply zqb | apply zqa | apply zqc)⟩⟩
        ·rw [if_neg c8] at H
         exact absurd H (by simp)
       ·rw [if_neg c7] at H
        exact absurd H (by simp)
      ·replace c6 := Bool.eq_false_iff.mpr c6
       subst c6
       have H1 : (if 0 ≤ x5_1 then (if x5_1 < (l0.length : Int) then (if ((zqy l0 x5_1).f0) = 4 then (if ((zqy l0 x5_1).f1).toList = ([41] : List UInt8) then (chancelref05_nested.l0 kj2 l0 (wrap64 (x3_1 - 1)) (mx x4_1 (wrap64 (x3_1 - 1))) (wrap64 (x5_1 + 1))) else (chancelref05_nested.l0 kj2 l0 x3_1 (mx x4_1 x3_1) (wrap64 (x5_1 + 1)))) else (chancelref05_nested.l0 kj2 l0 x3_1 (mx x4_1 x3_1) (wrap64 (x5_1 + 1)))) else (none)) else (none)) = some r := by rw [if_neg (show ¬ (false = true) by decide)] at H; exact H
       clear H
       have H := H1
       clear H1
       by_cases c14 : 0 ≤ x5_1
       ·rw [if_pos c14] at H
        have c14b0 : decide (0 ≤ x5_1) = true := decide_eq_true c14
        clear c14
        by_cases c15 : x5_1 < (l0.length : Int)
        ·rw [if_pos c15] at H
         have c15b0 : decide (x5_1 < (l0.length : Int)) = true := decide_eq_true c15
         clear c15
         by_cases c16 : ((zqy l0 x5_1).f0) = 4
         ·rw [if_pos c16] at H
          have c16b0 : (((zqy l0 x5_1).f0) == 4) = true := beq_iff_eq.mpr c16
          have c16b1 : (((zqy l0 x5_1).f0) != 4) = false := bne_eq_false_iff_eq.mpr c16
          clear c16
          by_cases c17 : ((zqy l0 x5_1).f1).toList = ([41] : List UInt8)
          ·rw [if_pos c17] at H
           have c17b0 : (((zqy l0 x5_1).f1).toList == ([41] : List UInt8)) = true := beq_iff_eq.mpr c17
           have c17b1 : (((zqy l0 x5_1).f1).toList != ([41] : List UInt8)) = false := bne_eq_false_iff_eq.mpr c17
           clear c17
           obtain ⟨ji18, hji18⟩ : ∃ j_ : Int, (mx x4_1 (wrap64 (x3_1 - 1))) = j_ := ⟨_, rfl⟩
           replace H : (chancelref05_nested.l0 kj2 l0 (wrap64 (x3_1 - 1)) ji18 (wrap64 (x5_1 + 1))) = some r := by first | (rw [hji18] at H; exact H) | (simp only [hji18] at H ⊢; exact H)
           have hji18_ : (if x4_1 < (wrap64 (x3_1 - 1)) then (wrap64 (x3_1 - 1)) else x4_1) = ji18 := hji18
           have H' := Aside0.mk H
           clear H
           have p272 : 0 ≤ (x5_1 : Int) := of_decide_eq_true (by assumption)
           have q272 : x5_1 < (l0.length : Int) := of_decide_eq_true (by assumption)
           obtain ⟨ad272, e272, hx272_0, hx272_1, hx272_2⟩ := at_T107 HR0.out x5_1 p272 q272
           cases e272
           replace hx272_0 := (HB.out.cell (World.block_lt_of_cell? w _ hx272_0)).trans hx272_0
           replace hx272_1 := (HB.out.cell (World.block_lt_of_cell? w _ hx272_1)).trans hx272_1
           replace hx272_2 := (HB.out.cell (World.block_lt_of_cell? w _ hx272_2)).trans hx272_2
           replace p272 := eq_true p272
           replace q272 := eq_true q272
           have p273 : 0 ≤ (x5_1 : Int) := of_decide_eq_true (by assumption)
           have q273 : x5_1 < (l0.length : Int) := of_decide_eq_true (by assumption)
           obtain ⟨ad273, e273, hx273_0, hx273_1, hx273_2⟩ := at_T107 HR0.out x5_1 p273 q273
           obtain rfl : ad272 = ad273 := (by injection e273)
           replace hx273_0 := (HB.out.cell (World.block_lt_of_cell? w _ hx273_0)).trans hx273_0
           replace hx273_1 := (HB.out.cell (World.block_lt_of_cell? w _ hx273_1)).trans hx273_1
           replace hx273_2 := (HB.out.cell (World.block_lt_of_cell? w _ hx273_2)).trans hx273_2
           replace p273 := eq_true p273
           replace q273 := eq_true q273
           go_wp2
           go_roundg kj2
           case measure => have := HK1.out; have := HJ2.out; omega
           case rel => exact ⟨(wrap64 (x3_1 - 1)), (ji18), (wrap64 (x5_1 + 1)), (by first | rfl | (simp [*]; done)), (by first | rfl | (simp; done) | (simp only [← hji18] <;> (first | rfl | simp)) | (simp [*]; done)), (by first | rfl | (simp [*]; done)), H', ⟨by have := HK1.out; have := HJ2.out; omega⟩, ⟨by repeat (first | exact HB.out | apply zqb | apply zqa | apply zqc)⟩⟩
          ·rw [if_neg c17] at H
           have c17b0 : (((zqy l0 x5_1).f1).toList == ([41] : List UInt8)) = false := beq_eq_false_iff_ne.mpr c17
           have c17b1 : (((zqy l0 x5_1).f1).toList != ([41] : List UInt8)) = true := bne_iff_ne.mpr c17
           obtain ⟨ji19, hji19⟩ : ∃ j_ : Int, (mx x4_1 x3_1) = j_ := ⟨_, rfl⟩
           replace H : (chancelref05_nested.l0 kj2 l0 x3_1 ji19 (wrap64 (x5_1 + 1))) = some r := by first | (rw [hji19] at H; exact H) | (simp only [hji19] at H ⊢; exact H)
           have hji19_ : (if x4_1 < x3_1 then x3_1 else x4_1) = ji19 := hji19
           have H' := Aside0.mk H
           clear H
           have p272 : 0 ≤ (x5_1 : Int) := of_decide_eq_true (by assumption)
           have q272 : x5_1 < (l0.length : Int) := of_decide_eq_true (by assumption)
           obtain ⟨ad272, e272, hx272_0, hx272_1, hx272_2⟩ := at_T107 HR0.out x5_1 p272 q272
           cases e272
           replace hx272_0 := (HB.out.cell (World.block_lt_of_cell? w _ hx272_0)).trans hx272_0
           replace hx272_1 := (HB.out.cell (World.block_lt_of_cell? w _ hx272_1)).trans hx272_1
           replace hx272_2 := (HB.out.cell (World.block_lt_of_cell? w _ hx272_2)).trans hx272_2
           replace p272 := eq_true p272
           replace q272 := eq_true q272
           have p273 : 0 ≤ (x5_1 : Int) := of_decide_eq_true (by assumption)
           have q273 : x5_1 < (l0.length : Int) := of_decide_eq_true (by assumption)
           obtain ⟨ad273, e273, hx273_0, hx273_1, hx273_2⟩ := at_T107 HR0.out x5_1 p273 q273
           obtain rfl : ad272 = ad273 := (by injection e273)
           replace hx273_0 := (HB.out.cell (World.block_lt_of_cell? w _ hx273_0)).trans hx273_0
           replace hx273_1 := (HB.out.cell (World.block_lt_of_cell? w _ hx273_1)).trans hx273_1
           replace hx273_2 := (HB.out.cell (World.block_lt_of_cell? w _ hx273_2)).trans hx273_2
           replace p273 := eq_true p273
           replace q273 := eq_true q273
           go_wp2
           go_roundg kj2
           case measure => have := HK1.out; have := HJ2.out; omega
           case rel => exact ⟨(x3_1), (ji19), (wrap64 (x5_1 + 1)), (by first | rfl | (simp [*]; done)), (by first | rfl | (simp; done) | (simp only [← hji19] <;> (first | rfl | simp)) | (simp [*]; done)), (by first | rfl | (simp [*]; done)), H', ⟨by have := HK1.out; have := HJ2.out; omega⟩, ⟨by repeat (first | exact HB.out | apply zqb | apply zqa | apply zqc)⟩⟩
         ·rw [if_neg c16] at H
          have c16b0 : (((zqy l0 x5_1).f0) == 4) = false := beq_eq_false_iff_ne.mpr c16
          have c16b1 : (((zqy l0 x5_1).f0) != 4) = true := bne_iff_ne.mpr c16
          obtain ⟨ji20, hji20⟩ : ∃ j_ : Int, (mx x4_1 x3_1) = j_ := ⟨_, rfl⟩
          replace H : (chancelref05_nested.l0 kj2 l0 x3_1 ji20 (wrap64 (x5_1 + 1))) = some r := by first | (rw [hji20] at H; exact H) | (simp only [hji20] at H ⊢; exact H)
          have hji20_ : (if x4_1 < x3_1 then x3_1 else x4_1) = ji20 := hji20
          have H' := Aside0.mk H
          clear H
          have p272 : 0 ≤ (x5_1 : Int) := of_decide_eq_true (by assumption)
          have q272 : x5_1 < (l0.length : Int) := of_decide_eq_true (by assumption)
          obtain ⟨ad272, e272, hx272_0, hx272_1, hx272_2⟩ := at_T107 HR0.out x5_1 p272 q272
          cases e272
          replace hx272_0 := (HB.out.cell (World.block_lt_of_cell? w _ hx272_0)).trans hx272_0
          replace hx272_1 := (HB.out.cell (World.block_lt_of_cell? w _ hx272_1)).trans hx272_1
          replace hx272_2 := (HB.out.cell (World.block_lt_of_cell? w _ hx272_2)).trans hx272_2
          replace p272 := eq_true p272
          replace q272 := eq_true q272
          go_wp2
          go_roundg kj2
          case measure => have := HK1.out; have := HJ2.out; omega
          case rel => exact ⟨(x3_1), (ji20), (wrap64 (x5_1 + 1)), (by first | rfl | (simp [*]; done)), (by first | rfl | (simp; done) | (simp only [← hji20] <;> (first | rfl | simp)) | (simp [*]; done)), (by first | rfl | (simp [*]; done)), H', ⟨by have := HK1.out; have := HJ2.out; omega⟩, ⟨by repeat (first | exact HB.out | apply zqb | apply zqa | apply zqc)⟩⟩
        ·rw [if_neg c15] at H
         exact absurd H (by simp)
       ·rw [if_neg c14] at H
        exact absurd H (by simp)
   ·rw [if_neg c2] at H
    have c2b0 : decide (x5_1 < (l0.length : Int)) = false := decide_eq_false c2
    clear c2
    obtain rfl := Option.some.inj H
    go_wp2
    go_ret
    exact ⟨by first | rfl | (simp [zqm, zql] <;> rfl) | (simp [*, zqm, zql] <;> rfl), by repeat (first | exact HB.out | apply zqb | apply zqa | apply zqc)⟩
end Go.Proofs.YtchekgnacodolaaGreatDoor.X
end

-- Joined by our own program (wip/tools/prune.py) out of the seat's texts, less what this claim doesn't name.
import Derived.Test.YtchekgnacodolaaGreatDoorJ6
import Derived.Test.YtchekgnacodolaaGreatDoorJ8
import Derived.Test.YtchekgnacodolaaGreatDoorJ10
import Derived.Test.YtchekgnacodolaaGreatDoorJ11
import Derived.Test.YtchekgnacodolaaGreatDoorJ12
section
namespace Go.Proofs.YtchekgnacodolaaGreatDoor.X
open Go.RowKit Go.Proofs.YtchekgnacodolaaGreatDoorW.PrintWords Go.Proofs.YtchekgnacodolaaGreatDoorW.PrintLast Go.Proofs.YtchekgnacodolaaGreatDoorW.PrintMore
attribute [local go_sem] max2_int min2_int max_two min_two max_three min_three max_four min_four   -- for this text's walks alone
set_option linter.unusedVariables false
set_option linter.unusedSimpArgs false
def lex_next.j0 : Nat → ByteArray → Int → Bool → Option (Int × ByteArray × Int × Int × Bool)
  | 0, _, _, _ => none
  | k + 1, x0, x5, x20 => if x20 = true then ((lex_run.f x0 (⟨#[48, 49, 50, 51, 52, 53, 54, 55, 56, 57]⟩ : ByteArray)).bind fun t222 => (if 0 ≤ t222 then (if t222 ≤ (x0.size : Int) then ((lex_number.f (x0.extract 0 (t222 : Int).toNat)).bind fun bt223 => (some (bt223.1, bt223.2.1, bt223.2.2.1, t222, bt223.2.2.2))) else (none)) else (none))) else ((strings_IndexByte.f (⟨#[97, 98, 99, 100, 101, 102, 103, 104, 105, 106, 107, 108, 109, 110, 111, 112, 113, 114, 115, 116, 117, 118, 119, 120, 121, 122, 65, 66, 67, 68, 69, 70, 71, 72, 73, 74, 75, 76, 77, 78, 79, 80, 81, 82, 83, 84, 85, 86, 87, 88, 89, 90, 48, 49, 50, 51, 52, 53, 54, 55, 56, 57]⟩ : ByteArray) x5).bind fun t212 => (if t212 ≥ 0 then ((lex_run.f x0 (⟨#[97, 98, 99, 100, 101, 102, 103, 104, 105, 106, 107, 108, 109, 110, 111, 112, 113, 114, 115, 116, 117, 118, 119, 120, 121, 122, 65, 66, 67, 68, 69, 70, 71, 72, 73, 74, 75, 76, 77, 78, 79, 80, 81, 82, 83, 84, 85, 86, 87, 88, 89, 90, 48, 49, 50, 51, 52, 53, 54, 55, 56, 57]⟩ : ByteArray)).bind fun t213 => (if 0 ≤ t213 then (if t213 ≤ (x0.size : Int) then ((lex_token.f k (x0.extract 0 (t213 : Int).toNat)).bind fun bt214 => (some (bt214.1, bt214.2.1, bt214.2.2.1, t213, bt214.2.2.2))) else (none)) else (none))) else ((lex_mark.f x0).bind fun bt218 => (some (bt218.1, bt218.2.1, bt218.2.2.1, (bt218.2.1.size : Int), bt218.2.2.2)))))
def lex_next.f (k : Nat) (a0 : ByteArray) : Option (Int × ByteArray × Int × Int × Bool) := if 0 < (a0.size : Int) then (if (bt a0 0) = 35 then ((strings_Cut.f a0 (⟨#[10]⟩ : ByteArray)).bind fun bt209 => (some (0, (⟨#[]⟩ : ByteArray), 0, (bt209.1.size : Int), true))) else (if (bt a0 0) = 32 then (some (0, (⟨#[]⟩ : ByteArray), 0, 1, true)) else (if (bt a0 0) = 10 then (some (0, (⟨#[]⟩ : ByteArray), 0, 1, true)) else (if (bt a0 0) ≥ 48 then (lex_next.j0 k a0 (bt a0 0) (decide ((bt a0 0) ≤ 57))) else (lex_next.j0 k a0 (bt a0 0) false))))) else (none)
theorem lex_next.mono_l : ∀ k, (∀ y0 y1 y2, LeO (lex_next.j0 k y0 y1 y2) (lex_next.j0 (k + 1) y0 y1 y2))
  | 0 => fun _ _ _ r h => by simp [lex_next.j0] at h
  | k + 1 => by
    have ih0 := lex_next.mono_l k
    · intro y0 y1 y2
      unfold lex_next.j0
      repeat' first
      | (with_reducible exact ih0 _ _ _)
      | (with_reducible exact lex_token.mono _ _)
      | (with_reducible exact LeO.refl _)
      | (with_reducible exact LeO.none _)
      | (with_reducible refine LeO.ite ?_ ?_)
      | (with_reducible refine LeO.bind ?_ (fun _ => ?_))
      | exact ih0 _ _ _
      | exact lex_token.mono _ _
      | exact LeO.none _
      | refine LeO.ite ?_ ?_
      | refine LeO.bind ?_ (fun _ => ?_)
theorem lex_next.mono : ∀ a0 k, LeO (lex_next.f k a0) (lex_next.f (k + 1) a0) := by
  intro a0 k
  have ih0 := lex_next.mono_l k
  unfold lex_next.f
  repeat' first
      | (with_reducible exact ih0 _ _ _)
      | (with_reducible exact lex_token.mono _ _)
      | (with_reducible exact LeO.refl _)
      | (with_reducible exact LeO.none _)
      | (with_reducible refine LeO.ite ?_ ?_)
      | (with_reducible refine LeO.bind ?_ (fun _ => ?_))
      | exact ih0 _ _ _
      | exact lex_token.mono _ _
      | exact LeO.none _
      | refine LeO.ite ?_ ?_
      | refine LeO.bind ?_ (fun _ => ?_)
set_option maxHeartbeats 8000000 in
set_option maxRecDepth 100000 in
theorem lex_next.calls (k : Nat) (a0 : ByteArray) (r1 : Int) (r2 : ByteArray) (r3 : Int) (r4 : Int) (r5 : Bool) (w : World) (hG : GL w) (h : lex_next.f k a0 = some (r1, r2, r3, r4, r5)) :
    Calls Tryz.prog 59 #[.string a0] w fun e w' => e = .returned (.tuple #[.agg #[.int .i64 r1, .string r2, .int .i64 r3], .int .i64 r4, .bool r5]) ∧ Below w.heap.size w w' := by
  have HG := Aside0.mk hG
  clear hG
  have hu106 := Tryz.underlying106
  have HB := Aside0.mk (Below.refl w.heap.size w)
  have H : (if 0 < (a0.size : Int) then (if (bt a0 0) = 35 then ((strings_Cut.f a0 (⟨#[10]⟩ : ByteArray)).bind fun bt209 => (some (0, (⟨#[]⟩ : ByteArray), 0, (bt209.1.size : Int), true))) else (if (bt a0 0) = 32 then (some (0, (⟨#[]⟩ : ByteArray), 0, 1, true)) else (if (bt a0 0) = 10 then (some (0, (⟨#[]⟩ : ByteArray), 0, 1, true)) else (if (bt a0 0) ≥ 48 then (lex_next.j0 k a0 (bt a0 0) (decide ((bt a0 0) ≤ 57))) else (lex_next.j0 k a0 (bt a0 0) false))))) else (none)) = some (r1, r2, r3, r4, r5) := h
  clear h
  by_cases c2 : 0 < (a0.size : Int)
  · rw [if_pos c2] at H
    have c2b0 : decide (0 < (a0.size : Int)) = true := decide_eq_true c2
    have c2b1 : decide (0 < a0.size) = true := decide_eq_true (by omega)
    clear c2
    by_cases c4 : (bt a0 0) = 35
    · rw [if_pos c4] at H
      have c4b0 : ((bt a0 0) == 35) = true := beq_iff_eq.mpr c4
      have c4b1 : ((bt a0 0) != 35) = false := bne_eq_false_iff_eq.mpr c4
      clear c4
      replace H := Option.bind_eq_some_iff.mp H
      obtain ⟨⟨t209, t210, t211⟩, A50, H⟩ := H
      replace H : (some (0, (⟨#[]⟩ : ByteArray), 0, (t209.size : Int), true)) = some (r1, r2, r3, r4, r5) := H
      have A5 := Aside0.mk A50
      clear A50
      simp only [Option.some.injEq, Prod.mk.injEq] at H
      obtain ⟨rfl, rfl, rfl, rfl, rfl⟩ := H
      go_enter Tryz.func59, Tryz.ntmps59
      go_wp2_with (first | ((with_reducible refine gate_dst (N := 2) rfl ?_); refine box_event ?hg (N := 2) ?hd (cs := #[.int .i64 0, .string (⟨#[]⟩ : ByteArray), .int .i64 0]) (t := 106) ?hr ?_; (case hd => rfl); (case hg => rfl); (case hr => first | (go_simp; done) | (go_simp; rfl)); intro gb208 hg w6 hbox hb; have n0_ := Aside0.mk (below_step (by repeat (first | (with_reducible first | exact HB.out | apply below_alloc | apply pw_below_drewN | apply below_drew1) | exact HB.out)) hb); have n1_ := Aside0.mk (hbox); have n2_ := Aside0.mk ((by rw [hg]; exact (below_size (by repeat (first | (with_reducible first | exact HB.out | apply below_alloc | apply pw_below_drewN | apply below_drew1) | exact HB.out))) : w.heap.size ≤ gb208)); have n3_ := Aside0.mk ((by rw [hg]; exact (below_size (by repeat (first | (with_reducible first | exact HB.out | apply below_alloc | apply pw_below_drewN | apply below_drew1) | exact HB.out))) : w.heap.size ≤ gb208)); clear HB; have HB := n0_; have BK208 := n1_; have GW208 := n2_; have GE208 := n3_; clear n0_ n1_ n2_ n3_; clear hb hbox hg; have p3 : 0 ≤ (0 : Int) := (by omega); have q3 : 0 < a0.size := (by have : (0 : Int) < (a0.size : Int) := of_decide_eq_true (by first | (with_reducible assumption) | assumption); omega); have hx3 : ∀ h : 0 < a0.size, ((a0[0]'h).toNat : Int) = bt a0 0 := bt_at a0 0; clear p3; have qi3 : (0 < (a0.size : Int)) = True := eq_true (of_decide_eq_true (by first | (with_reducible assumption) | assumption)); replace q3 := eq_true q3) | ((with_reducible refine gate_callee (f := 98) rfl ?_); refine goesL_ (some 33) rfl rfl Tryz.func98 (by kernel_rfl) rfl #[.string a0, .string (⟨#[10]⟩ : ByteArray)] rfl (by (try simp only [List.map_toArray, List.map_cons, List.map_nil]); first | done | rfl | (simp only [List.length_drop, List.length_take]; rfl)) ?_; (with_reducible refine (strings_Cut.calls a0 (⟨#[10]⟩ : ByteArray) t209 t210 t211 _ ?side1 A5.out).mono ?_); (case side1 => exact GL.below HG.out (by repeat (first | (with_reducible first | exact HB.out | apply below_alloc | apply pw_below_drewN | apply below_drew1 | refine below_set ?_ GE208.out) | exact HB.out))); rintro e w' ⟨rfl, ⟨nd, rfl⟩⟩; refine ⟨_, rfl, ?_⟩; (try (rw [drewN_self w6]; generalize hq_ : World.drewN w6 _ = w6; have n0_ : Aside0 (w6.heap[gb208]? = some (.cells #[.int .i64 0, .string (⟨#[]⟩ : ByteArray), .int .i64 0] 106 (0, 0))) := ⟨by rw [← hq_]; exact (by (with_reducible repeat (first | refine blk_drewN ?_ _ | refine blk_drew ?_ | refine blk_alloc ?_ _)); exact BK208.out)⟩; have n1_ : Aside0 (Below w.heap.size w w6) := ⟨by rw [← hq_]; exact (by repeat (first | (with_reducible first | exact HB.out | apply below_alloc | apply pw_below_drewN | apply below_drew1 | refine below_set ?_ GE208.out) | exact HB.out))⟩; clear BK208 HB hq_; have BK208 := n0_; have HB := n1_; clear n0_ n1_)); have hcz7_0 : w6.cell? ⟨gb208, 0, none⟩ = some (.int .i64 0) := (blk_cell BK208.out 0).trans rfl; have hcz7_1 : w6.cell? ⟨gb208, 1, none⟩ = some (.string (⟨#[]⟩ : ByteArray)) := (blk_cell BK208.out 1).trans rfl; have hcz7_2 : w6.cell? ⟨gb208, 2, none⟩ = some (.int .i64 0) := (blk_cell BK208.out 2).trans rfl; have hfz7_0 := blk_frozen BK208.out 0; have hfz7_1 := blk_frozen BK208.out 1; have hfz7_2 := blk_frozen BK208.out 2))
      refine bodyPost_ret (results_ctt rfl _ _ gb208 106 #[.int .i64 0, .string (⟨#[]⟩ : ByteArray), .int .i64 0] (0, 0) _ rfl (by (with_reducible repeat (first | refine blk_drewN ?_ _ | refine blk_drew ?_ | refine blk_alloc ?_ _)); refine blk_put (cs := #[.int .i64 0, .string (⟨#[]⟩ : ByteArray), .int .i64 0]) ?_ 2 _ rfl; (with_reducible repeat (first | refine blk_drewN ?_ _ | refine blk_drew ?_ | refine blk_alloc ?_ _)); refine blk_put (cs := #[.int .i64 0, .string (⟨#[]⟩ : ByteArray), .int .i64 0]) ?_ 1 _ rfl; (with_reducible repeat (first | refine blk_drewN ?_ _ | refine blk_drew ?_ | refine blk_alloc ?_ _)); refine blk_put (cs := #[.int .i64 0, .string (⟨#[]⟩ : ByteArray), .int .i64 0]) ?_ 0 _ rfl; (with_reducible repeat (first | refine blk_drewN ?_ _ | refine blk_drew ?_ | refine blk_alloc ?_ _)); exact BK208.out) Tryz.underlying106 rfl (by kernel_rfl)) rfl ?_
      exact ⟨by first | rfl | (simp [errW_none, errW_some] <;> rfl) | (simp [*, errW_none, errW_some] <;> rfl), by repeat (first | (with_reducible first | exact HB.out | apply below_alloc | apply pw_below_drewN | apply below_drew1 | refine below_set ?_ GE208.out) | exact HB.out)⟩
    · rw [if_neg c4] at H
      have c4b0 : ((bt a0 0) == 35) = false := beq_eq_false_iff_ne.mpr c4
      have c4b1 : ((bt a0 0) != 35) = true := bne_iff_ne.mpr c4
      by_cases c8 : (bt a0 0) = 32
      · rw [if_pos c8] at H
        have c8b0 : ((bt a0 0) == 32) = true := beq_iff_eq.mpr c8
        have c8b1 : ((bt a0 0) != 32) = false := bne_eq_false_iff_eq.mpr c8
        clear c8
        simp only [Option.some.injEq, Prod.mk.injEq] at H
        obtain ⟨rfl, rfl, rfl, rfl, rfl⟩ := H
        go_enter Tryz.func59, Tryz.ntmps59
        go_wp2_with (first | ((with_reducible refine gate_dst (N := 2) rfl ?_); refine box_event ?hg (N := 2) ?hd (cs := #[.int .i64 0, .string (⟨#[]⟩ : ByteArray), .int .i64 0]) (t := 106) ?hr ?_; (case hd => rfl); (case hg => rfl); (case hr => first | (go_simp; done) | (go_simp; rfl)); intro gb208 hg w9 hbox hb; have n0_ := Aside0.mk (below_step (by repeat (first | (with_reducible first | exact HB.out | apply below_alloc | apply pw_below_drewN | apply below_drew1) | exact HB.out)) hb); have n1_ := Aside0.mk (hbox); have n2_ := Aside0.mk ((by rw [hg]; exact (below_size (by repeat (first | (with_reducible first | exact HB.out | apply below_alloc | apply pw_below_drewN | apply below_drew1) | exact HB.out))) : w.heap.size ≤ gb208)); have n3_ := Aside0.mk ((by rw [hg]; exact (below_size (by repeat (first | (with_reducible first | exact HB.out | apply below_alloc | apply pw_below_drewN | apply below_drew1) | exact HB.out))) : w.heap.size ≤ gb208)); clear HB; have HB := n0_; have BK208 := n1_; have GW208 := n2_; have GE208 := n3_; clear n0_ n1_ n2_ n3_; clear hb hbox hg; have p3 : 0 ≤ (0 : Int) := (by omega); have q3 : 0 < a0.size := (by have : (0 : Int) < (a0.size : Int) := of_decide_eq_true (by first | (with_reducible assumption) | assumption); omega); have hx3 : ∀ h : 0 < a0.size, ((a0[0]'h).toNat : Int) = bt a0 0 := bt_at a0 0; clear p3; have qi3 : (0 < (a0.size : Int)) = True := eq_true (of_decide_eq_true (by first | (with_reducible assumption) | assumption)); replace q3 := eq_true q3; have hcz10_0 : w9.cell? ⟨gb208, 0, none⟩ = some (.int .i64 0) := (blk_cell BK208.out 0).trans rfl; have hcz10_1 : w9.cell? ⟨gb208, 1, none⟩ = some (.string (⟨#[]⟩ : ByteArray)) := (blk_cell BK208.out 1).trans rfl; have hcz10_2 : w9.cell? ⟨gb208, 2, none⟩ = some (.int .i64 0) := (blk_cell BK208.out 2).trans rfl; have hfz10_0 := blk_frozen BK208.out 0; have hfz10_1 := blk_frozen BK208.out 1; have hfz10_2 := blk_frozen BK208.out 2))
        refine bodyPost_ret (results_ctt rfl _ _ gb208 106 #[.int .i64 0, .string (⟨#[]⟩ : ByteArray), .int .i64 0] (0, 0) _ rfl (by (with_reducible repeat (first | refine blk_drewN ?_ _ | refine blk_drew ?_ | refine blk_alloc ?_ _)); refine blk_put (cs := #[.int .i64 0, .string (⟨#[]⟩ : ByteArray), .int .i64 0]) ?_ 2 _ rfl; (with_reducible repeat (first | refine blk_drewN ?_ _ | refine blk_drew ?_ | refine blk_alloc ?_ _)); refine blk_put (cs := #[.int .i64 0, .string (⟨#[]⟩ : ByteArray), .int .i64 0]) ?_ 1 _ rfl; (with_reducible repeat (first | refine blk_drewN ?_ _ | refine blk_drew ?_ | refine blk_alloc ?_ _)); refine blk_put (cs := #[.int .i64 0, .string (⟨#[]⟩ : ByteArray), .int .i64 0]) ?_ 0 _ rfl; (with_reducible repeat (first | refine blk_drewN ?_ _ | refine blk_drew ?_ | refine blk_alloc ?_ _)); exact BK208.out) Tryz.underlying106 rfl (by kernel_rfl)) rfl ?_
        exact ⟨by first | rfl | (simp [errW_none, errW_some] <;> rfl) | (simp [*, errW_none, errW_some] <;> rfl), by repeat (first | (with_reducible first | exact HB.out | apply below_alloc | apply pw_below_drewN | apply below_drew1 | refine below_set ?_ GE208.out) | exact HB.out)⟩
      · rw [if_neg c8] at H
        have c8b0 : ((bt a0 0) == 32) = false := beq_eq_false_iff_ne.mpr c8
        have c8b1 : ((bt a0 0) != 32) = true := bne_iff_ne.mpr c8
        by_cases c11 : (bt a0 0) = 10
        · rw [if_pos c11] at H
          have c11b0 : ((bt a0 0) == 10) = true := beq_iff_eq.mpr c11
          have c11b1 : ((bt a0 0) != 10) = false := bne_eq_false_iff_eq.mpr c11
          clear c11
          simp only [Option.some.injEq, Prod.mk.injEq] at H
          obtain ⟨rfl, rfl, rfl, rfl, rfl⟩ := H
          go_enter Tryz.func59, Tryz.ntmps59
          go_wp2_with (first | ((with_reducible refine gate_dst (N := 2) rfl ?_); refine box_event ?hg (N := 2) ?hd (cs := #[.int .i64 0, .string (⟨#[]⟩ : ByteArray), .int .i64 0]) (t := 106) ?hr ?_; (case hd => rfl); (case hg => rfl); (case hr => first | (go_simp; done) | (go_simp; rfl)); intro gb208 hg w12 hbox hb; have n0_ := Aside0.mk (below_step (by repeat (first | (with_reducible first | exact HB.out | apply below_alloc | apply pw_below_drewN | apply below_drew1) | exact HB.out)) hb); have n1_ := Aside0.mk (hbox); have n2_ := Aside0.mk ((by rw [hg]; exact (below_size (by repeat (first | (with_reducible first | exact HB.out | apply below_alloc | apply pw_below_drewN | apply below_drew1) | exact HB.out))) : w.heap.size ≤ gb208)); have n3_ := Aside0.mk ((by rw [hg]; exact (below_size (by repeat (first | (with_reducible first | exact HB.out | apply below_alloc | apply pw_below_drewN | apply below_drew1) | exact HB.out))) : w.heap.size ≤ gb208)); clear HB; have HB := n0_; have BK208 := n1_; have GW208 := n2_; have GE208 := n3_; clear n0_ n1_ n2_ n3_; clear hb hbox hg; have p3 : 0 ≤ (0 : Int) := (by omega); have q3 : 0 < a0.size := (by have : (0 : Int) < (a0.size : Int) := of_decide_eq_true (by first | (with_reducible assumption) | assumption); omega); have hx3 : ∀ h : 0 < a0.size, ((a0[0]'h).toNat : Int) = bt a0 0 := bt_at a0 0; clear p3; have qi3 : (0 < (a0.size : Int)) = True := eq_true (of_decide_eq_true (by first | (with_reducible assumption) | assumption)); replace q3 := eq_true q3; have hcz13_0 : w12.cell? ⟨gb208, 0, none⟩ = some (.int .i64 0) := (blk_cell BK208.out 0).trans rfl; have hcz13_1 : w12.cell? ⟨gb208, 1, none⟩ = some (.string (⟨#[]⟩ : ByteArray)) := (blk_cell BK208.out 1).trans rfl; have hcz13_2 : w12.cell? ⟨gb208, 2, none⟩ = some (.int .i64 0) := (blk_cell BK208.out 2).trans rfl; have hfz13_0 := blk_frozen BK208.out 0; have hfz13_1 := blk_frozen BK208.out 1; have hfz13_2 := blk_frozen BK208.out 2))
          refine bodyPost_ret (results_ctt rfl _ _ gb208 106 #[.int .i64 0, .string (⟨#[]⟩ : ByteArray), .int .i64 0] (0, 0) _ rfl (by (with_reducible repeat (first | refine blk_drewN ?_ _ | refine blk_drew ?_ | refine blk_alloc ?_ _)); refine blk_put (cs := #[.int .i64 0, .string (⟨#[]⟩ : ByteArray), .int .i64 0]) ?_ 2 _ rfl; (with_reducible repeat (first | refine blk_drewN ?_ _ | refine blk_drew ?_ | refine blk_alloc ?_ _)); refine blk_put (cs := #[.int .i64 0, .string (⟨#[]⟩ : ByteArray), .int .i64 0]) ?_ 1 _ rfl; (with_reducible repeat (first | refine blk_drewN ?_ _ | refine blk_drew ?_ | refine blk_alloc ?_ _)); refine blk_put (cs := #[.int .i64 0, .string (⟨#[]⟩ : ByteArray), .int .i64 0]) ?_ 0 _ rfl; (with_reducible repeat (first | refine blk_drewN ?_ _ | refine blk_drew ?_ | refine blk_alloc ?_ _)); exact BK208.out) Tryz.underlying106 rfl (by kernel_rfl)) rfl ?_
          exact ⟨by first | rfl | (simp [errW_none, errW_some] <;> rfl) | (simp [*, errW_none, errW_some] <;> rfl), by repeat (first | (with_reducible first | exact HB.out | apply below_alloc | apply pw_below_drewN | apply below_drew1 | refine below_set ?_ GE208.out) | exact HB.out)⟩
        · rw [if_neg c11] at H
          have c11b0 : ((bt a0 0) == 10) = false := beq_eq_false_iff_ne.mpr c11
          have c11b1 : ((bt a0 0) != 10) = true := bne_iff_ne.mpr c11
          have HC14 := Aside0.mk H
          clear H
          go_enter Tryz.func59, Tryz.ntmps59
          go_upto_region 5 with (first | ((with_reducible refine gate_dst (N := 2) rfl ?_); refine box_event ?hg (N := 2) ?hd (cs := #[.int .i64 0, .string (⟨#[]⟩ : ByteArray), .int .i64 0]) (t := 106) ?hr ?_; (case hd => rfl); (case hg => rfl); (case hr => first | (go_simp; done) | (go_simp; rfl)); intro gb208 hg w15 hbox hb; have n0_ := Aside0.mk (below_step (by repeat (first | (with_reducible first | exact HB.out | apply below_alloc | apply pw_below_drewN | apply below_drew1) | exact HB.out)) hb); have n1_ := Aside0.mk (hbox); have n2_ := Aside0.mk ((by rw [hg]; exact (below_size (by repeat (first | (with_reducible first | exact HB.out | apply below_alloc | apply pw_below_drewN | apply below_drew1) | exact HB.out))) : w.heap.size ≤ gb208)); have n3_ := Aside0.mk ((by rw [hg]; exact (below_size (by repeat (first | (with_reducible first | exact HB.out | apply below_alloc | apply pw_below_drewN | apply below_drew1) | exact HB.out))) : w.heap.size ≤ gb208)); clear HB; have HB := n0_; have BK208 := n1_; have GW208 := n2_; have GE208 := n3_; clear n0_ n1_ n2_ n3_; clear hb hbox hg; have p3 : 0 ≤ (0 : Int) := (by omega); have q3 : 0 < a0.size := (by have : (0 : Int) < (a0.size : Int) := of_decide_eq_true (by first | (with_reducible assumption) | assumption); omega); have hx3 : ∀ h : 0 < a0.size, ((a0[0]'h).toNat : Int) = bt a0 0 := bt_at a0 0; clear p3; have qi3 : (0 < (a0.size : Int)) = True := eq_true (of_decide_eq_true (by first | (with_reducible assumption) | assumption)); replace q3 := eq_true q3))
          (try simp only [Act.put, List.setIfInBounds_toArray, List.set_cons_zero, List.set_cons_succ])
          go_cut [20] (fun v20 wc => ∃ (kq : Nat) (x20_13 : Bool), v20 = .bool x20_13 ∧ Aside0 (lex_next.j0 kq a0 (bt a0 0) x20_13 = some (r1, r2, r3, r4, r5)) ∧ Aside0 (kq ≤ k) ∧ Aside0 (wc.heap[gb208]? = some (.cells #[.int .i64 0, .string (⟨#[]⟩ : ByteArray), .int .i64 0] 106 (0, 0))) ∧ Aside0 (Below w.heap.size w wc))
          case first =>
            have H := HC14.out
            clear HC14
            by_cases c16 : (bt a0 0) ≥ 48
            · rw [if_pos c16] at H
              have c16b0 : decide (48 ≤ (bt a0 0)) = true := decide_eq_true c16
              clear c16
              (first | rw [c16b0] | (simp only [i64_w, i32_w]; rw [c16b0]) | skip)
              have H' := Aside0.mk H
              clear H
              go_wp2
              go_meet
              case rel => exact ⟨_, (decide ((bt a0 0) ≤ 57)), (by first | rfl | (simp; done) | (simp [*]; done)), H', ⟨by first | omega | exact Nat.le_refl _⟩, ⟨by (with_reducible repeat (first | refine blk_drewN ?_ _ | refine blk_drew ?_ | refine blk_alloc ?_ _)); exact BK208.out⟩, ⟨by repeat (first | (with_reducible first | exact HB.out | apply below_alloc | apply pw_below_drewN | apply below_drew1 | refine below_set ?_ GE208.out) | exact HB.out)⟩⟩
            · rw [if_neg c16] at H
              have c16b0 : decide (48 ≤ (bt a0 0)) = false := decide_eq_false c16
              clear c16
              (first | rw [c16b0] | (simp only [i64_w, i32_w]; rw [c16b0]) | skip)
              have H' := Aside0.mk H
              clear H
              go_wp2
              go_meet
              case rel => exact ⟨_, (false), (by first | rfl | (simp; done) | (simp [*]; done)), H', ⟨by first | omega | exact Nat.le_refl _⟩, ⟨by (with_reducible repeat (first | refine blk_drewN ?_ _ | refine blk_drew ?_ | refine blk_alloc ?_ _)); exact BK208.out⟩, ⟨by repeat (first | (with_reducible first | exact HB.out | apply below_alloc | apply pw_below_drewN | apply below_drew1 | refine below_set ?_ GE208.out) | exact HB.out)⟩⟩
          case rest =>
            clear HC14
            try clear c1
            try clear c2
            try clear c2b0
            try clear c2b1
            try clear p2
            try clear p3
            try clear q3
            try clear hx3
            try clear qi3
            try clear c4
            try clear c4b0
            try clear c4b1
            try clear c5
            try clear c8
            try clear c8b0
            try clear c8b1
            try clear c9
            try clear c11
            try clear c11b0
            try clear c11b1
            try clear c16
            try clear c16b0
            try clear hcz10_0
            try clear hcz10_1
            try clear hcz10_2
            try clear hcz13_0
            try clear hcz13_1
            try clear hcz13_2
            try clear hcz7_0
            try clear hcz7_1
            try clear hcz7_2
            try clear hfz10_0
            try clear hfz10_1
            try clear hfz10_2
            try clear hfz13_0
            try clear hfz13_1
            try clear hfz13_2
            try clear hfz7_0
            try clear hfz7_1
            try clear hfz7_2
            try clear p3
            try clear q3
            obtain ⟨kq, x20_13, rfl, HA, HJ13, BK208, HB⟩ := hcut
            cases kq with
            | zero => exact absurd HA.out (by simp [lex_next.j0])
            | succ kj13 =>
              have H := HA.out
              clear HA
              simp only [lex_next.j0] at H
              by_cases c17 : x20_13 = true
              · subst c17
                have H1 : ((lex_run.f a0 (⟨#[48, 49, 50, 51, 52, 53, 54, 55, 56, 57]⟩ : ByteArray)).bind fun t222 => (if 0 ≤ t222 then (if t222 ≤ (a0.size : Int) then ((lex_number.f (a0.extract 0 (t222 : Int).toNat)).bind fun bt223 => (some (bt223.1, bt223.2.1, bt223.2.2.1, t222, bt223.2.2.2))) else (none)) else (none))) = some (r1, r2, r3, r4, r5) := by rw [if_pos rfl] at H; exact H
                clear H
                have H := H1
                clear H1
                replace H := Option.bind_eq_some_iff.mp H
                obtain ⟨t222, A180, H⟩ := H
                replace H : (if 0 ≤ t222 then (if t222 ≤ (a0.size : Int) then ((lex_number.f (a0.extract 0 (t222 : Int).toNat)).bind fun bt223 => (some (bt223.1, bt223.2.1, bt223.2.2.1, t222, bt223.2.2.2))) else (none)) else (none)) = some (r1, r2, r3, r4, r5) := H
                have A18 := Aside0.mk A180
                clear A180
                by_cases c19 : 0 ≤ t222
                · rw [if_pos c19] at H
                  have c19b0 := eq_true c19
                  have c19b1 : decide (0 ≤ t222) = true := decide_eq_true c19
                  clear c19
                  by_cases c20 : t222 ≤ (a0.size : Int)
                  · rw [if_pos c20] at H
                    have c20b0 := eq_true c20
                    have c20b1 : decide (t222 ≤ (a0.size : Int)) = true := decide_eq_true c20
                    clear c20
                    replace H := Option.bind_eq_some_iff.mp H
                    obtain ⟨⟨t223, t224, t225, t226⟩, A210, H⟩ := H
                    replace H : (some (t223, t224, t225, t222, t226)) = some (r1, r2, r3, r4, r5) := H
                    have A21 := Aside0.mk A210
                    clear A210
                    simp only [Option.some.injEq, Prod.mk.injEq] at H
                    obtain ⟨rfl, rfl, rfl, rfl, rfl⟩ := H
                    go_wp2_with (first | ((with_reducible refine gate_callee (f := 99) rfl ?_); refine goesL_ (some 42) rfl rfl Tryz.func99 (by kernel_rfl) rfl #[.string a0, .string (⟨#[48, 49, 50, 51, 52, 53, 54, 55, 56, 57]⟩ : ByteArray)] rfl (by (try simp only [List.map_toArray, List.map_cons, List.map_nil]); first | done | rfl | (simp only [List.length_drop, List.length_take]; rfl)) ?_; (with_reducible refine (lex_run.calls a0 (⟨#[48, 49, 50, 51, 52, 53, 54, 55, 56, 57]⟩ : ByteArray) t222 _ A18.out).mono ?_); rintro e w22 ⟨rfl, hb⟩; refine ⟨_, rfl, ?_⟩; have n0_ := Aside0.mk (blk_below (g := gb208) (o := .cells #[.int .i64 0, .string (⟨#[]⟩ : ByteArray), .int .i64 0] 106 (0, 0)) (by (with_reducible repeat (first | refine blk_drewN ?_ _ | refine blk_drew ?_ | refine blk_alloc ?_ _)); exact BK208.out) hb); have n1_ := Aside0.mk (below_step (by repeat (first | (with_reducible first | exact HB.out | apply below_alloc | apply pw_below_drewN | apply below_drew1 | refine below_set ?_ GE208.out) | exact HB.out)) hb); clear BK208; clear HB; have BK208 := n0_; have HB := n1_; clear n0_ n1_; (try clear hb); (try clear hb2); (try clear hk); (try clear hi)) | ((with_reducible refine gate_callee (f := 100) rfl ?_); refine goesL_ (some 47) rfl rfl Tryz.func100 (by kernel_rfl) rfl #[.string (a0.extract 0 (t222 : Int).toNat)] rfl (by (try simp only [List.map_toArray, List.map_cons, List.map_nil]); first | done | rfl | (simp only [List.length_drop, List.length_take]; rfl)) ?_; (with_reducible refine (lex_number.calls (a0.extract 0 (t222 : Int).toNat) t223 t224 t225 t226 _ ?side1 A21.out).mono ?_); (case side1 => exact GL.below HG.out (by repeat (first | (with_reducible first | exact HB.out | apply below_alloc | apply pw_below_drewN | apply below_drew1 | refine below_set ?_ GE208.out) | exact HB.out))); rintro e w23 ⟨rfl, hb⟩; refine ⟨_, rfl, ?_⟩; have n0_ := Aside0.mk (blk_below (g := gb208) (o := .cells #[.int .i64 0, .string (⟨#[]⟩ : ByteArray), .int .i64 0] 106 (0, 0)) (by (with_reducible repeat (first | refine blk_drewN ?_ _ | refine blk_drew ?_ | refine blk_alloc ?_ _)); exact BK208.out) hb); have n1_ := Aside0.mk (below_step (by repeat (first | (with_reducible first | exact HB.out | apply below_alloc | apply pw_below_drewN | apply below_drew1 | refine below_set ?_ GE208.out) | exact HB.out)) hb); clear BK208; clear HB; have BK208 := n0_; have HB := n1_; clear n0_ n1_; (try clear hb); (try clear hb2); (try clear hk); (try clear hi); have hcz24_0 : w23.cell? ⟨gb208, 0, none⟩ = some (.int .i64 0) := (blk_cell BK208.out 0).trans rfl; have hcz24_1 : w23.cell? ⟨gb208, 1, none⟩ = some (.string (⟨#[]⟩ : ByteArray)) := (blk_cell BK208.out 1).trans rfl; have hcz24_2 : w23.cell? ⟨gb208, 2, none⟩ = some (.int .i64 0) := (blk_cell BK208.out 2).trans rfl; have hfz24_0 := blk_frozen BK208.out 0; have hfz24_1 := blk_frozen BK208.out 1; have hfz24_2 := blk_frozen BK208.out 2))
                    refine bodyPost_ret (results_ctt rfl _ _ gb208 106 #[.int .i64 t223, .string t224, .int .i64 t225] (0, 0) _ rfl (by (with_reducible repeat (first | refine blk_drewN ?_ _ | refine blk_drew ?_ | refine blk_alloc ?_ _)); refine blk_put (cs := #[.int .i64 t223, .string t224, .int .i64 t225]) ?_ 2 _ rfl; (with_reducible repeat (first | refine blk_drewN ?_ _ | refine blk_drew ?_ | refine blk_alloc ?_ _)); refine blk_put (cs := #[.int .i64 t223, .string t224, .int .i64 t225]) ?_ 1 _ rfl; (with_reducible repeat (first | refine blk_drewN ?_ _ | refine blk_drew ?_ | refine blk_alloc ?_ _)); refine blk_put (cs := #[.int .i64 t223, .string t224, .int .i64 t225]) ?_ 0 _ rfl; (with_reducible repeat (first | refine blk_drewN ?_ _ | refine blk_drew ?_ | refine blk_alloc ?_ _)); refine blk_put (cs := #[.int .i64 t223, .string t224, .int .i64 0]) ?_ 2 _ rfl; (with_reducible repeat (first | refine blk_drewN ?_ _ | refine blk_drew ?_ | refine blk_alloc ?_ _)); refine blk_put (cs := #[.int .i64 t223, .string (⟨#[]⟩ : ByteArray), .int .i64 0]) ?_ 1 _ rfl; (with_reducible repeat (first | refine blk_drewN ?_ _ | refine blk_drew ?_ | refine blk_alloc ?_ _)); refine blk_put (cs := #[.int .i64 0, .string (⟨#[]⟩ : ByteArray), .int .i64 0]) ?_ 0 _ rfl; (with_reducible repeat (first | refine blk_drewN ?_ _ | refine blk_drew ?_ | refine blk_alloc ?_ _)); exact BK208.out) Tryz.underlying106 rfl (by kernel_rfl)) rfl ?_
                    exact ⟨by first | rfl | (simp [errW_none, errW_some] <;> rfl) | (simp [*, errW_none, errW_some] <;> rfl), by repeat (first | (with_reducible first | exact HB.out | apply below_alloc | apply pw_below_drewN | apply below_drew1 | refine below_set ?_ GE208.out) | exact HB.out)⟩
                  · rw [if_neg c20] at H
                    exact absurd H (by simp)
                · rw [if_neg c19] at H
                  exact absurd H (by simp)
              · replace c17 := Bool.eq_false_iff.mpr c17
                subst c17
                have H1 : ((strings_IndexByte.f (⟨#[97, 98, 99, 100, 101, 102, 103, 104, 105, 106, 107, 108, 109, 110, 111, 112, 113, 114, 115, 116, 117, 118, 119, 120, 121, 122, 65, 66, 67, 68, 69, 70, 71, 72, 73, 74, 75, 76, 77, 78, 79, 80, 81, 82, 83, 84, 85, 86, 87, 88, 89, 90, 48, 49, 50, 51, 52, 53, 54, 55, 56, 57]⟩ : ByteArray) (bt a0 0)).bind fun t212 => (if t212 ≥ 0 then ((lex_run.f a0 (⟨#[97, 98, 99, 100, 101, 102, 103, 104, 105, 106, 107, 108, 109, 110, 111, 112, 113, 114, 115, 116, 117, 118, 119, 120, 121, 122, 65, 66, 67, 68, 69, 70, 71, 72, 73, 74, 75, 76, 77, 78, 79, 80, 81, 82, 83, 84, 85, 86, 87, 88, 89, 90, 48, 49, 50, 51, 52, 53, 54, 55, 56, 57]⟩ : ByteArray)).bind fun t213 => (if 0 ≤ t213 then (if t213 ≤ (a0.size : Int) then ((lex_token.f kj13 (a0.extract 0 (t213 : Int).toNat)).bind fun bt214 => (some (bt214.1, bt214.2.1, bt214.2.2.1, t213, bt214.2.2.2))) else (none)) else (none))) else ((lex_mark.f a0).bind fun bt218 => (some (bt218.1, bt218.2.1, bt218.2.2.1, (bt218.2.1.size : Int), bt218.2.2.2))))) = some (r1, r2, r3, r4, r5) := by rw [if_neg (show ¬ (false = true) by decide)] at H; exact H
                clear H
                have H := H1
                clear H1
                replace H := Option.bind_eq_some_iff.mp H
                obtain ⟨t212, A250, H⟩ := H
                replace H : (if t212 ≥ 0 then ((lex_run.f a0 (⟨#[97, 98, 99, 100, 101, 102, 103, 104, 105, 106, 107, 108, 109, 110, 111, 112, 113, 114, 115, 116, 117, 118, 119, 120, 121, 122, 65, 66, 67, 68, 69, 70, 71, 72, 73, 74, 75, 76, 77, 78, 79, 80, 81, 82, 83, 84, 85, 86, 87, 88, 89, 90, 48, 49, 50, 51, 52, 53, 54, 55, 56, 57]⟩ : ByteArray)).bind fun t213 => (if 0 ≤ t213 then (if t213 ≤ (a0.size : Int) then ((lex_token.f kj13 (a0.extract 0 (t213 : Int).toNat)).bind fun bt214 => (some (bt214.1, bt214.2.1, bt214.2.2.1, t213, bt214.2.2.2))) else (none)) else (none))) else ((lex_mark.f a0).bind fun bt218 => (some (bt218.1, bt218.2.1, bt218.2.2.1, (bt218.2.1.size : Int), bt218.2.2.2)))) = some (r1, r2, r3, r4, r5) := H
                have A25 := Aside0.mk A250
                clear A250
                by_cases c26 : t212 ≥ 0
                · rw [if_pos c26] at H
                  have c26b0 : decide (0 ≤ t212) = true := decide_eq_true c26
                  clear c26
                  replace H := Option.bind_eq_some_iff.mp H
                  obtain ⟨t213, A270, H⟩ := H
                  replace H : (if 0 ≤ t213 then (if t213 ≤ (a0.size : Int) then ((lex_token.f kj13 (a0.extract 0 (t213 : Int).toNat)).bind fun bt214 => (some (bt214.1, bt214.2.1, bt214.2.2.1, t213, bt214.2.2.2))) else (none)) else (none)) = some (r1, r2, r3, r4, r5) := H
                  have A27 := Aside0.mk A270
                  clear A270
                  by_cases c28 : 0 ≤ t213
                  · rw [if_pos c28] at H
                    have c28b0 := eq_true c28
                    have c28b1 : decide (0 ≤ t213) = true := decide_eq_true c28
                    clear c28
                    by_cases c29 : t213 ≤ (a0.size : Int)
                    · rw [if_pos c29] at H
                      have c29b0 := eq_true c29
                      have c29b1 : decide (t213 ≤ (a0.size : Int)) = true := decide_eq_true c29
                      clear c29
                      replace H := Option.bind_eq_some_iff.mp H
                      obtain ⟨⟨t214, t215, t216, t217⟩, A300, H⟩ := H
                      replace H : (some (t214, t215, t216, t213, t217)) = some (r1, r2, r3, r4, r5) := H
                      have A30 := Aside0.mk A300
                      clear A300
                      simp only [Option.some.injEq, Prod.mk.injEq] at H
                      obtain ⟨rfl, rfl, rfl, rfl, rfl⟩ := H
                      go_wp2_with (first | ((with_reducible refine gate_callee (f := 101) rfl ?_); refine goesL_ (some 29) rfl rfl Tryz.func101 (by kernel_rfl) rfl #[.string (⟨#[97, 98, 99, 100, 101, 102, 103, 104, 105, 106, 107, 108, 109, 110, 111, 112, 113, 114, 115, 116, 117, 118, 119, 120, 121, 122, 65, 66, 67, 68, 69, 70, 71, 72, 73, 74, 75, 76, 77, 78, 79, 80, 81, 82, 83, 84, 85, 86, 87, 88, 89, 90, 48, 49, 50, 51, 52, 53, 54, 55, 56, 57]⟩ : ByteArray), .int .u8 (bt a0 0)] rfl (by (try simp only [List.map_toArray, List.map_cons, List.map_nil]); first | done | rfl | (simp only [List.length_drop, List.length_take]; rfl)) ?_; (with_reducible refine (strings_IndexByte.calls (⟨#[97, 98, 99, 100, 101, 102, 103, 104, 105, 106, 107, 108, 109, 110, 111, 112, 113, 114, 115, 116, 117, 118, 119, 120, 121, 122, 65, 66, 67, 68, 69, 70, 71, 72, 73, 74, 75, 76, 77, 78, 79, 80, 81, 82, 83, 84, 85, 86, 87, 88, 89, 90, 48, 49, 50, 51, 52, 53, 54, 55, 56, 57]⟩ : ByteArray) (bt a0 0) t212 _ A25.out).mono ?_); rintro e w' ⟨rfl, ⟨nd, rfl⟩⟩; refine ⟨_, rfl, ?_⟩; (try (rw [drewN_self wc]; generalize hq_ : World.drewN wc _ = wc; have n0_ : Aside0 (wc.heap[gb208]? = some (.cells #[.int .i64 0, .string (⟨#[]⟩ : ByteArray), .int .i64 0] 106 (0, 0))) := ⟨by rw [← hq_]; exact (by (with_reducible repeat (first | refine blk_drewN ?_ _ | refine blk_drew ?_ | refine blk_alloc ?_ _)); exact BK208.out)⟩; have n1_ : Aside0 (Below w.heap.size w wc) := ⟨by rw [← hq_]; exact (by repeat (first | (with_reducible first | exact HB.out | apply below_alloc | apply pw_below_drewN | apply below_drew1 | refine below_set ?_ GE208.out) | exact HB.out))⟩; clear BK208 HB hq_; have BK208 := n0_; have HB := n1_; clear n0_ n1_))) | ((with_reducible refine gate_callee (f := 99) rfl ?_); refine goesL_ (some 51) rfl rfl Tryz.func99 (by kernel_rfl) rfl #[.string a0, .string (⟨#[97, 98, 99, 100, 101, 102, 103, 104, 105, 106, 107, 108, 109, 110, 111, 112, 113, 114, 115, 116, 117, 118, 119, 120, 121, 122, 65, 66, 67, 68, 69, 70, 71, 72, 73, 74, 75, 76, 77, 78, 79, 80, 81, 82, 83, 84, 85, 86, 87, 88, 89, 90, 48, 49, 50, 51, 52, 53, 54, 55, 56, 57]⟩ : ByteArray)] rfl (by (try simp only [List.map_toArray, List.map_cons, List.map_nil]); first | done | rfl | (simp only [List.length_drop, List.length_take]; rfl)) ?_; (with_reducible refine (lex_run.calls a0 (⟨#[97, 98, 99, 100, 101, 102, 103, 104, 105, 106, 107, 108, 109, 110, 111, 112, 113, 114, 115, 116, 117, 118, 119, 120, 121, 122, 65, 66, 67, 68, 69, 70, 71, 72, 73, 74, 75, 76, 77, 78, 79, 80, 81, 82, 83, 84, 85, 86, 87, 88, 89, 90, 48, 49, 50, 51, 52, 53, 54, 55, 56, 57]⟩ : ByteArray) t213 _ A27.out).mono ?_); rintro e w31 ⟨rfl, hb⟩; refine ⟨_, rfl, ?_⟩; have n0_ := Aside0.mk (blk_below (g := gb208) (o := .cells #[.int .i64 0, .string (⟨#[]⟩ : ByteArray), .int .i64 0] 106 (0, 0)) (by (with_reducible repeat (first | refine blk_drewN ?_ _ | refine blk_drew ?_ | refine blk_alloc ?_ _)); exact BK208.out) hb); have n1_ := Aside0.mk (below_step (by repeat (first | (with_reducible first | exact HB.out | apply below_alloc | apply pw_below_drewN | apply below_drew1 | refine below_set ?_ GE208.out) | exact HB.out)) hb); clear BK208; clear HB; have BK208 := n0_; have HB := n1_; clear n0_ n1_; (try clear hb); (try clear hb2); (try clear hk); (try clear hi)) | ((with_reducible refine gate_callee (f := 102) rfl ?_); refine goesL_ (some 56) rfl rfl Tryz.func102 (by kernel_rfl) rfl #[.string (a0.extract 0 (t213 : Int).toNat)] rfl (by (try simp only [List.map_toArray, List.map_cons, List.map_nil]); first | done | rfl | (simp only [List.length_drop, List.length_take]; rfl)) ?_; (with_reducible refine (lex_token.calls kj13 (a0.extract 0 (t213 : Int).toNat) t214 t215 t216 t217 _ ?side1 A30.out).mono ?_); (case side1 => exact GL.below HG.out (by repeat (first | (with_reducible first | exact HB.out | apply below_alloc | apply pw_below_drewN | apply below_drew1 | refine below_set ?_ GE208.out) | exact HB.out))); rintro e w32 ⟨rfl, hb⟩; refine ⟨_, rfl, ?_⟩; have n0_ := Aside0.mk (blk_below (g := gb208) (o := .cells #[.int .i64 0, .string (⟨#[]⟩ : ByteArray), .int .i64 0] 106 (0, 0)) (by (with_reducible repeat (first | refine blk_drewN ?_ _ | refine blk_drew ?_ | refine blk_alloc ?_ _)); exact BK208.out) hb); have n1_ := Aside0.mk (below_step (by repeat (first | (with_reducible first | exact HB.out | apply below_alloc | apply pw_below_drewN | apply below_drew1 | refine below_set ?_ GE208.out) | exact HB.out)) hb); clear BK208; clear HB; have BK208 := n0_; have HB := n1_; clear n0_ n1_; (try clear hb); (try clear hb2); (try clear hk); (try clear hi); have hcz33_0 : w32.cell? ⟨gb208, 0, none⟩ = some (.int .i64 0) := (blk_cell BK208.out 0).trans rfl; have hcz33_1 : w32.cell? ⟨gb208, 1, none⟩ = some (.string (⟨#[]⟩ : ByteArray)) := (blk_cell BK208.out 1).trans rfl; have hcz33_2 : w32.cell? ⟨gb208, 2, none⟩ = some (.int .i64 0) := (blk_cell BK208.out 2).trans rfl; have hfz33_0 := blk_frozen BK208.out 0; have hfz33_1 := blk_frozen BK208.out 1; have hfz33_2 := blk_frozen BK208.out 2))
                      refine bodyPost_ret (results_ctt rfl _ _ gb208 106 #[.int .i64 t214, .string t215, .int .i64 t216] (0, 0) _ rfl (by (with_reducible repeat (first | refine blk_drewN ?_ _ | refine blk_drew ?_ | refine blk_alloc ?_ _)); refine blk_put (cs := #[.int .i64 t214, .string t215, .int .i64 t216]) ?_ 2 _ rfl; (with_reducible repeat (first | refine blk_drewN ?_ _ | refine blk_drew ?_ | refine blk_alloc ?_ _)); refine blk_put (cs := #[.int .i64 t214, .string t215, .int .i64 t216]) ?_ 1 _ rfl; (with_reducible repeat (first | refine blk_drewN ?_ _ | refine blk_drew ?_ | refine blk_alloc ?_ _)); refine blk_put (cs := #[.int .i64 t214, .string t215, .int .i64 t216]) ?_ 0 _ rfl; (with_reducible repeat (first | refine blk_drewN ?_ _ | refine blk_drew ?_ | refine blk_alloc ?_ _)); refine blk_put (cs := #[.int .i64 t214, .string t215, .int .i64 0]) ?_ 2 _ rfl; (with_reducible repeat (first | refine blk_drewN ?_ _ | refine blk_drew ?_ | refine blk_alloc ?_ _)); refine blk_put (cs := #[.int .i64 t214, .string (⟨#[]⟩ : ByteArray), .int .i64 0]) ?_ 1 _ rfl; (with_reducible repeat (first | refine blk_drewN ?_ _ | refine blk_drew ?_ | refine blk_alloc ?_ _)); refine blk_put (cs := #[.int .i64 0, .string (⟨#[]⟩ : ByteArray), .int .i64 0]) ?_ 0 _ rfl; (with_reducible repeat (first | refine blk_drewN ?_ _ | refine blk_drew ?_ | refine blk_alloc ?_ _)); exact BK208.out) Tryz.underlying106 rfl (by kernel_rfl)) rfl ?_
                      exact ⟨by first | rfl | (simp [errW_none, errW_some] <;> rfl) | (simp [*, errW_none, errW_some] <;> rfl), by repeat (first | (with_reducible first | exact HB.out | apply below_alloc | apply pw_below_drewN | apply below_drew1 | refine below_set ?_ GE208.out) | exact HB.out)⟩
                    · rw [if_neg c29] at H
                      exact absurd H (by simp)
                  · rw [if_neg c28] at H
                    exact absurd H (by simp)
                · rw [if_neg c26] at H
                  have c26b0 : decide (0 ≤ t212) = false := decide_eq_false c26
                  clear c26
                  replace H := Option.bind_eq_some_iff.mp H
                  obtain ⟨⟨t218, t219, t220, t221⟩, A340, H⟩ := H
                  replace H : (some (t218, t219, t220, (t219.size : Int), t221)) = some (r1, r2, r3, r4, r5) := H
                  have A34 := Aside0.mk A340
                  clear A340
                  simp only [Option.some.injEq, Prod.mk.injEq] at H
                  obtain ⟨rfl, rfl, rfl, rfl, rfl⟩ := H
                  go_wp2_with (first | ((with_reducible refine gate_callee (f := 101) rfl ?_); refine goesL_ (some 29) rfl rfl Tryz.func101 (by kernel_rfl) rfl #[.string (⟨#[97, 98, 99, 100, 101, 102, 103, 104, 105, 106, 107, 108, 109, 110, 111, 112, 113, 114, 115, 116, 117, 118, 119, 120, 121, 122, 65, 66, 67, 68, 69, 70, 71, 72, 73, 74, 75, 76, 77, 78, 79, 80, 81, 82, 83, 84, 85, 86, 87, 88, 89, 90, 48, 49, 50, 51, 52, 53, 54, 55, 56, 57]⟩ : ByteArray), .int .u8 (bt a0 0)] rfl (by (try simp only [List.map_toArray, List.map_cons, List.map_nil]); first | done | rfl | (simp only [List.length_drop, List.length_take]; rfl)) ?_; (with_reducible refine (strings_IndexByte.calls (⟨#[97, 98, 99, 100, 101, 102, 103, 104, 105, 106, 107, 108, 109, 110, 111, 112, 113, 114, 115, 116, 117, 118, 119, 120, 121, 122, 65, 66, 67, 68, 69, 70, 71, 72, 73, 74, 75, 76, 77, 78, 79, 80, 81, 82, 83, 84, 85, 86, 87, 88, 89, 90, 48, 49, 50, 51, 52, 53, 54, 55, 56, 57]⟩ : ByteArray) (bt a0 0) t212 _ A25.out).mono ?_); rintro e w' ⟨rfl, ⟨nd, rfl⟩⟩; refine ⟨_, rfl, ?_⟩; (try (rw [drewN_self wc]; generalize hq_ : World.drewN wc _ = wc; have n0_ : Aside0 (wc.heap[gb208]? = some (.cells #[.int .i64 0, .string (⟨#[]⟩ : ByteArray), .int .i64 0] 106 (0, 0))) := ⟨by rw [← hq_]; exact (by (with_reducible repeat (first | refine blk_drewN ?_ _ | refine blk_drew ?_ | refine blk_alloc ?_ _)); exact BK208.out)⟩; have n1_ : Aside0 (Below w.heap.size w wc) := ⟨by rw [← hq_]; exact (by repeat (first | (with_reducible first | exact HB.out | apply below_alloc | apply pw_below_drewN | apply below_drew1 | refine below_set ?_ GE208.out) | exact HB.out))⟩; clear BK208 HB hq_; have BK208 := n0_; have HB := n1_; clear n0_ n1_))) | ((with_reducible refine gate_callee (f := 103) rfl ?_); refine goesL_ (some 61) rfl rfl Tryz.func103 (by kernel_rfl) rfl #[.string a0] rfl (by (try simp only [List.map_toArray, List.map_cons, List.map_nil]); first | done | rfl | (simp only [List.length_drop, List.length_take]; rfl)) ?_; (with_reducible refine (lex_mark.calls a0 t218 t219 t220 t221 _ ?side1 A34.out).mono ?_); (case side1 => exact GL.below HG.out (by repeat (first | (with_reducible first | exact HB.out | apply below_alloc | apply pw_below_drewN | apply below_drew1 | refine below_set ?_ GE208.out) | exact HB.out))); rintro e w35 ⟨rfl, hb⟩; refine ⟨_, rfl, ?_⟩; have n0_ := Aside0.mk (blk_below (g := gb208) (o := .cells #[.int .i64 0, .string (⟨#[]⟩ : ByteArray), .int .i64 0] 106 (0, 0)) (by (with_reducible repeat (first | refine blk_drewN ?_ _ | refine blk_drew ?_ | refine blk_alloc ?_ _)); exact BK208.out) hb); have n1_ := Aside0.mk (below_step (by repeat (first | (with_reducible first | exact HB.out | apply below_alloc | apply pw_below_drewN | apply below_drew1 | refine below_set ?_ GE208.out) | exact HB.out)) hb); clear BK208; clear HB; have BK208 := n0_; have HB := n1_; clear n0_ n1_; (try clear hb); (try clear hb2); (try clear hk); (try clear hi); have hcz36_0 : w35.cell? ⟨gb208, 0, none⟩ = some (.int .i64 0) := (blk_cell BK208.out 0).trans rfl; have hcz36_1 : w35.cell? ⟨gb208, 1, none⟩ = some (.string (⟨#[]⟩ : ByteArray)) := (blk_cell BK208.out 1).trans rfl; have hcz36_2 : w35.cell? ⟨gb208, 2, none⟩ = some (.int .i64 0) := (blk_cell BK208.out 2).trans rfl; have hfz36_0 := blk_frozen BK208.out 0; have hfz36_1 := blk_frozen BK208.out 1; have hfz36_2 := blk_frozen BK208.out 2))
                  refine bodyPost_ret (results_ctt rfl _ _ gb208 106 #[.int .i64 t218, .string t219, .int .i64 t220] (0, 0) _ rfl (by (with_reducible repeat (first | refine blk_drewN ?_ _ | refine blk_drew ?_ | refine blk_alloc ?_ _)); refine blk_put (cs := #[.int .i64 t218, .string t219, .int .i64 t220]) ?_ 2 _ rfl; (with_reducible repeat (first | refine blk_drewN ?_ _ | refine blk_drew ?_ | refine blk_alloc ?_ _)); refine blk_put (cs := #[.int .i64 t218, .string t219, .int .i64 t220]) ?_ 1 _ rfl; (with_reducible repeat (first | refine blk_drewN ?_ _ | refine blk_drew ?_ | refine blk_alloc ?_ _)); refine blk_put (cs := #[.int .i64 t218, .string t219, .int .i64 t220]) ?_ 0 _ rfl; (with_reducible repeat (first | refine blk_drewN ?_ _ | refine blk_drew ?_ | refine blk_alloc ?_ _)); refine blk_put (cs := #[.int .i64 t218, .string t219, .int .i64 0]) ?_ 2 _ rfl; (with_reducible repeat (first | refine blk_drewN ?_ _ | refine blk_drew ?_ | refine blk_alloc ?_ _)); refine blk_put (cs := #[.int .i64 t218, .string (⟨#[]⟩ : ByteArray), .int .i64 0]) ?_ 1 _ rfl; (with_reducible repeat (first | refine blk_drewN ?_ _ | refine blk_drew ?_ | refine blk_alloc ?_ _)); refine blk_put (cs := #[.int .i64 0, .string (⟨#[]⟩ : ByteArray), .int .i64 0]) ?_ 0 _ rfl; (with_reducible repeat (first | refine blk_drewN ?_ _ | refine blk_drew ?_ | refine blk_alloc ?_ _)); exact BK208.out) Tryz.underlying106 rfl (by kernel_rfl)) rfl ?_
                  exact ⟨by first | rfl | (simp [errW_none, errW_some] <;> rfl) | (simp [*, errW_none, errW_some] <;> rfl), by repeat (first | (with_reducible first | exact HB.out | apply below_alloc | apply pw_below_drewN | apply below_drew1 | refine below_set ?_ GE208.out) | exact HB.out)⟩
  · rw [if_neg c2] at H
    exact absurd H (by simp)
end Go.Proofs.YtchekgnacodolaaGreatDoor.X
end
section
namespace Go.Proofs.YtchekgnacodolaaGreatDoor.X
open Go.RowKit Go.Proofs.YtchekgnacodolaaGreatDoorW.PrintWords Go.Proofs.YtchekgnacodolaaGreatDoorW.PrintLast Go.Proofs.YtchekgnacodolaaGreatDoorW.PrintMore
attribute [local go_sem] max2_int min2_int max_two min_two max_three min_three max_four min_four   -- for this text's walks alone
set_option linter.unusedVariables false
set_option linter.unusedSimpArgs false
def lex_Lex.l0 : Nat → ByteArray → List (S106) → Option ((List (S106)) × Int)
  | 0, _, _ => none
  | k + 1, x0, x4 => if x0.toList = ([] : List UInt8) then (some (x4, 0)) else ((lex_next.f k x0).bind fun bt227 => (if bt227.2.2.2.2 = true then (if bt227.1 > 0 then (if x4.length < 4398046511104 then (if 0 ≤ bt227.2.2.2.1 then (if bt227.2.2.2.1 ≤ (x0.size : Int) then (lex_Lex.l0 k (x0.extract (bt227.2.2.2.1 : Int).toNat x0.size) (x4 ++ [(⟨bt227.1, bt227.2.1, bt227.2.2.1⟩ : S106)])) else (none)) else (none)) else (none)) else (if 0 ≤ bt227.2.2.2.1 then (if bt227.2.2.2.1 ≤ (x0.size : Int) then (lex_Lex.l0 k (x0.extract (bt227.2.2.2.1 : Int).toNat x0.size) x4) else (none)) else (none))) else (some (([] : List (S106)), 2))))
def lex_Lex.f (k : Nat) (a0 : ByteArray) : Option ((List (S106)) × Int) := if (a0.size : Int) > 65536 then (some (([] : List (S106)), 1)) else (lex_Lex.l0 k a0 ([] : List (S106)))
theorem lex_Lex.mono_l : ∀ k, (∀ y0 y1, LeO (lex_Lex.l0 k y0 y1) (lex_Lex.l0 (k + 1) y0 y1))
  | 0 => fun _ _ r h => by simp [lex_Lex.l0] at h
  | k + 1 => by
    have ih0 := lex_Lex.mono_l k
    · intro y0 y1
      unfold lex_Lex.l0
      repeat' first
      | (with_reducible exact ih0 _ _)
      | (with_reducible exact lex_next.mono _ _)
      | (with_reducible exact LeO.refl _)
      | (with_reducible exact LeO.none _)
      | (with_reducible refine LeO.ite ?_ ?_)
      | (with_reducible refine LeO.bind ?_ (fun _ => ?_))
      | exact ih0 _ _
      | exact lex_next.mono _ _
      | exact LeO.none _
      | refine LeO.ite ?_ ?_
      | refine LeO.bind ?_ (fun _ => ?_)
theorem lex_Lex.mono : ∀ a0 k, LeO (lex_Lex.f k a0) (lex_Lex.f (k + 1) a0) := by
  intro a0 k
  have ih0 := lex_Lex.mono_l k
  unfold lex_Lex.f
  repeat' first
      | (with_reducible exact ih0 _ _)
      | (with_reducible exact lex_next.mono _ _)
      | (with_reducible exact LeO.refl _)
      | (with_reducible exact LeO.none _)
      | (with_reducible refine LeO.ite ?_ ?_)
      | (with_reducible refine LeO.bind ?_ (fun _ => ?_))
      | exact ih0 _ _
      | exact lex_next.mono _ _
      | exact LeO.none _
      | refine LeO.ite ?_ ?_
      | refine LeO.bind ?_ (fun _ => ?_)
set_option maxHeartbeats 8000000 in
set_option maxRecDepth 100000 in
theorem lex_Lex.calls (k : Nat) (a0 : ByteArray) (r1 : List (S106)) (r2 : Int) (w : World) (hG : GL w) (h : lex_Lex.f k a0 = some (r1, r2)) :
    Calls Tryz.prog 26 #[.string a0] w fun e w' => ∃ v0_ : Value, e = .returned (.tuple #[v0_, .int .i64 r2]) ∧ Kd.R k106 106 w' w.heap.size (fun _ => True) v0_ r1 ∧ Below w.heap.size w w' := by
  have HG := Aside0.mk hG
  clear hG
  have hu106 := Tryz.underlying106
  have HB := Aside0.mk (Below.refl w.heap.size w)
  have H : (if (a0.size : Int) > 65536 then (some (([] : List (S106)), 1)) else (lex_Lex.l0 k a0 ([] : List (S106)))) = some (r1, r2) := h
  clear h
  by_cases c2 : (a0.size : Int) > 65536
  · rw [if_pos c2] at H
    have c2b0 : decide (65536 < (a0.size : Int)) = true := decide_eq_true c2
    have c2b1 : decide (65536 < a0.size) = true := decide_eq_true (by omega)
    clear c2
    simp only [Option.some.injEq, Prod.mk.injEq] at H
    obtain ⟨rfl, rfl⟩ := H
    go_enter Tryz.func26, Tryz.ntmps26
    go_wp2
    go_ret2
    exact ⟨_, by first | rfl | (simp [errW_none, errW_some] <;> rfl) | (simp [*, errW_none, errW_some] <;> rfl), by first | exact Kd.R_nil _ _ _ _ _ | exact Kd.N_nil _ _ _ _ _ | exact Kd.V_nil _ _ _ _ _ | exact Kd.Q_nil _ _ _ _ _ | exact Kd.S_nil _ _ _ _ _, by repeat (first | (with_reducible first | exact HB.out | apply below_alloc | apply pw_below_drewN | apply below_drew1) | exact HB.out)⟩
  · rw [if_neg c2] at H
    have c2b0 : decide (65536 < (a0.size : Int)) = false := decide_eq_false c2
    have c2b1 : decide (65536 < a0.size) = false := decide_eq_false (by omega)
    clear c2
    have H' := Aside0.mk H
    clear H
    go_enter Tryz.func26, Tryz.ntmps26
    go_wp2
    go_loopg [0, 4] k (fun kq v0 v4 w' => ∃ (x0_1 : ByteArray) (x4_1 : List (S106)), v0 = .string x0_1 ∧ Aside0 (lex_Lex.l0 kq x0_1 x4_1 = some (r1, r2)) ∧ Aside0 (kq ≤ k) ∧ Aside0 (Kd.R k106 106 w' w.heap.size (fun _ => True) v4 x4_1) ∧ Aside0 (Below w.heap.size w w'))
    case atStart => exact ⟨(a0), (([] : List (S106))), (by first | rfl | (simp; done) | (simp [*]; done)), H', ⟨Nat.le_refl _⟩, ⟨by first | exact Kd.R_nil _ _ _ _ _ | exact Kd.N_nil _ _ _ _ _ | exact Kd.V_nil _ _ _ _ _ | exact Kd.Q_nil _ _ _ _ _ | exact Kd.S_nil _ _ _ _ _⟩, ⟨by repeat (first | (with_reducible first | exact HB.out | apply below_alloc | apply pw_below_drewN | apply below_drew1) | exact HB.out)⟩⟩
    case round =>
      clear H'
      try clear c2
      try clear c2b0
      try clear c2b1
      try clear p2
      obtain ⟨x0_1, x4_1, rfl, HA, HK1, HO_4, HB⟩ := hrel
      cases gk with
      | zero => exact absurd HA.out (by simp [lex_Lex.l0])
      | succ k1 =>
        have H := HA.out
        clear HA
        simp only [lex_Lex.l0] at H
        by_cases c3 : x0_1.toList = ([] : List UInt8)
        · rw [if_pos c3] at H
          have c3b0 : (x0_1.toList == ([] : List UInt8)) = true := beq_iff_eq.mpr c3
          have c3b1 : (x0_1.toList != ([] : List UInt8)) = false := bne_eq_false_iff_eq.mpr c3
          clear c3
          simp only [Option.some.injEq, Prod.mk.injEq] at H
          obtain ⟨rfl, rfl⟩ := H
          go_wp2
          go_ret2
          exact ⟨_, by first | rfl | (simp [errW_none, errW_some] <;> rfl) | (simp [*, errW_none, errW_some] <;> rfl), by (with_reducible repeat (first | apply Kd.R_alloc | apply Kd.R_drewN | apply Kd.R_drew)); exact HO_4.out, by repeat (first | (with_reducible first | exact HB.out | apply below_alloc | apply pw_below_drewN | apply below_drew1) | exact HB.out)⟩
        · rw [if_neg c3] at H
          have c3b0 : (x0_1.toList == ([] : List UInt8)) = false := beq_eq_false_iff_ne.mpr c3
          have c3b1 : (x0_1.toList != ([] : List UInt8)) = true := bne_iff_ne.mpr c3
          replace H := Option.bind_eq_some_iff.mp H
          obtain ⟨⟨t227, t228, t229, t230, t231⟩, A40, H⟩ := H
          replace H : (if t231 = true then (if t227 > 0 then (if x4_1.length < 4398046511104 then (if 0 ≤ t230 then (if t230 ≤ (x0_1.size : Int) then (lex_Lex.l0 k1 (x0_1.extract (t230 : Int).toNat x0_1.size) (x4_1 ++ [(⟨t227, t228, t229⟩ : S106)])) else (none)) else (none)) else (none)) else (if 0 ≤ t230 then (if t230 ≤ (x0_1.size : Int) then (lex_Lex.l0 k1 (x0_1.extract (t230 : Int).toNat x0_1.size) x4_1) else (none)) else (none))) else (some (([] : List (S106)), 2))) = some (r1, r2) := H
          have A4 := Aside0.mk A40
          clear A40
          by_cases c5 : t231 = true
          · subst c5
            have H1 : (if t227 > 0 then (if x4_1.length < 4398046511104 then (if 0 ≤ t230 then (if t230 ≤ (x0_1.size : Int) then (lex_Lex.l0 k1 (x0_1.extract (t230 : Int).toNat x0_1.size) (x4_1 ++ [(⟨t227, t228, t229⟩ : S106)])) else (none)) else (none)) else (none)) else (if 0 ≤ t230 then (if t230 ≤ (x0_1.size : Int) then (lex_Lex.l0 k1 (x0_1.extract (t230 : Int).toNat x0_1.size) x4_1) else (none)) else (none))) = some (r1, r2) := by rw [if_pos rfl] at H; exact H
            clear H
            have H := H1
            clear H1
            by_cases c6 : t227 > 0
            · rw [if_pos c6] at H
              have c6b0 : decide (0 < t227) = true := decide_eq_true c6
              clear c6
              by_cases c7 : x4_1.length < 4398046511104
              · rw [if_pos c7] at H
                have LMc7 := Aside0.mk c7
                clear c7
                obtain ⟨y233, hy233⟩ : ∃ y_ : List (S106), y_ = (x4_1 ++ [(⟨t227, t228, t229⟩ : S106)]) := ⟨_, rfl⟩
                replace H : (if 0 ≤ t230 then (if t230 ≤ (x0_1.size : Int) then (lex_Lex.l0 k1 (x0_1.extract (t230 : Int).toNat x0_1.size) y233) else (none)) else (none)) = some (r1, r2) := by first | (rw [hy233]; with_reducible exact H) | (have H2_ := (Option.bind_some _ _).symm.trans H; rw [hy233]; with_reducible exact H2_) | (have H2_ := (Option.bind_some _ _).symm.trans H; with_reducible exact H2_) | with_reducible exact H | (rw [hy233]; exact H) | exact H
                have Ny233 := Aside0.mk hy233
                clear hy233
                by_cases c8 : 0 ≤ t230
                · rw [if_pos c8] at H
                  have c8b0 := eq_true c8
                  have c8b1 : decide (0 ≤ t230) = true := decide_eq_true c8
                  clear c8
                  by_cases c9 : t230 ≤ (x0_1.size : Int)
                  · rw [if_pos c9] at H
                    have c9b0 := eq_true c9
                    have c9b1 : decide (t230 ≤ (x0_1.size : Int)) = true := decide_eq_true c9
                    clear c9
                    have H' := Aside0.mk H
                    clear H
                    go_wp2_with (first | ((with_reducible refine gate_callee (f := 59) rfl ?_); refine goesL_ (some 15) rfl rfl Tryz.func59 (by kernel_rfl) rfl #[.string x0_1] rfl (by (try simp only [List.map_toArray, List.map_cons, List.map_nil]); first | done | rfl | (simp only [List.length_drop, List.length_take]; rfl)) ?_; (with_reducible refine (lex_next.calls k1 x0_1 t227 t228 t229 t230 true _ ?side1 A4.out).mono ?_); (case side1 => exact GL.below HG.out (by repeat (first | (with_reducible first | exact HB.out | apply below_alloc | apply pw_below_drewN | apply below_drew1) | exact HB.out))); rintro e w10 ⟨rfl, hb⟩; refine ⟨_, rfl, ?_⟩; have n0_ := Aside0.mk (Kd.R_below (by (with_reducible repeat (first | apply Kd.R_alloc | apply Kd.R_drewN | apply Kd.R_drew)); exact HO_4.out) hb); have n1_ := Aside0.mk (below_step (by repeat (first | (with_reducible first | exact HB.out | apply below_alloc | apply pw_below_drewN | apply below_drew1) | exact HB.out)) hb); clear HO_4; clear HB; have HO_4 := n0_; have HB := n1_; clear n0_ n1_; (try clear hb); (try clear hb2); (try clear hk); (try clear hi)) | ((with_reducible refine gate_dst (N := 5) rfl ?_); refine box_event ?hg (N := 5) ?hd (cs := #[.int .i64 0, .string (⟨#[]⟩ : ByteArray), .int .i64 0]) (t := 106) ?hr ?_; (case hd => rfl); (case hg => rfl); (case hr => first | (go_simp; done) | (go_simp; rfl)); intro gb232 hg w11 hbox hb; have n0_ := Aside0.mk (Kd.R_below (Kd.R_elderB (by (with_reducible repeat (first | apply Kd.R_alloc | apply Kd.R_drewN | apply Kd.R_drew)); exact HO_4.out) gb232 (Nat.le_of_eq hg.symm)) hb); have n1_ := Aside0.mk (below_step (by repeat (first | (with_reducible first | exact HB.out | apply below_alloc | apply pw_below_drewN | apply below_drew1) | exact HB.out)) hb); have n2_ := Aside0.mk (hbox); have n3_ := Aside0.mk ((by rw [hg]; exact (below_size (by repeat (first | (with_reducible first | exact HB.out | apply below_alloc | apply pw_below_drewN | apply below_drew1) | exact HB.out))) : w.heap.size ≤ gb232)); have n4_ := Aside0.mk ((by rw [hg]; exact (below_size (by repeat (first | (with_reducible first | exact HB.out | apply below_alloc | apply pw_below_drewN | apply below_drew1) | exact HB.out))) : w.heap.size ≤ gb232)); clear HO_4; clear HB; have HO_4 := n0_; have HB := n1_; have BK232 := n2_; have GW232 := n3_; have GE232 := n4_; clear n0_ n1_ n2_ n3_ n4_; clear hb hbox hg; have hcz12_0 : w11.cell? ⟨gb232, 0, none⟩ = some (.int .i64 0) := (blk_cell BK232.out 0).trans rfl; have hcz12_1 : w11.cell? ⟨gb232, 1, none⟩ = some (.string (⟨#[]⟩ : ByteArray)) := (blk_cell BK232.out 1).trans rfl; have hcz12_2 : w11.cell? ⟨gb232, 2, none⟩ = some (.int .i64 0) := (blk_cell BK232.out 2).trans rfl; have hfz12_0 := blk_frozen BK232.out 0; have hfz12_1 := blk_frozen BK232.out 1; have hfz12_2 := blk_frozen BK232.out 2) | ((with_reducible refine gate_builtin (b := .append) (xs := #[.tmp 24, .tmp 26]) rfl ?_); at_builtin; refine Kd.R_append k106 (w0 := w) w.heap.size rfl (.tmp 24) (.tmp 26) 22 106 (.agg #[(.int .i64 0), (.string ⟨#[]⟩), (.int .i64 0)]) 32 rfl Tryz.underlying22 info106 rfl (by decide) (by omega) u4 x4_1 (⟨t227, t228, t229⟩ : S106) [.int .i64 t227, .string t228, .int .i64 t229] (fun k_ => k_ ≠ gb232) (fun _ => False) rfl (by first | (go_simp; done) | (go_simp; rfl)) ?aP (fun _ hk => hk.elim) ?aF ?aO ?aB ?aS ?aL ?_; (case aP => exact k106_mkM _ _ _ (⟨t227, t228, t229⟩ : S106)); (case aB => exact (by repeat (first | (with_reducible first | exact HB.out | apply below_alloc | apply pw_below_drewN | apply below_drew1 | refine below_set ?_ GE232.out) | exact HB.out))); (case aF => exact (fun k_ hk => Kd.freshB (g := gb232) (o := .cells #[.int .i64 t227, .string t228, .int .i64 t229] 106 (0, 0)) (by (with_reducible repeat (first | refine blk_drewN ?_ _ | refine blk_drew ?_ | refine blk_alloc ?_ _)); refine blk_put (cs := #[.int .i64 t227, .string t228, .int .i64 0]) ?_ 2 _ rfl; (with_reducible repeat (first | refine blk_drewN ?_ _ | refine blk_drew ?_ | refine blk_alloc ?_ _)); refine blk_put (cs := #[.int .i64 t227, .string (⟨#[]⟩ : ByteArray), .int .i64 0]) ?_ 1 _ rfl; (with_reducible repeat (first | refine blk_drewN ?_ _ | refine blk_drew ?_ | refine blk_alloc ?_ _)); refine blk_put (cs := #[.int .i64 0, .string (⟨#[]⟩ : ByteArray), .int .i64 0]) ?_ 0 _ rfl; (with_reducible repeat (first | refine blk_drewN ?_ _ | refine blk_drew ?_ | refine blk_alloc ?_ _)); exact BK232.out) k_ hk)); (case aO => exact (by (with_reducible repeat (first | apply Kd.R_alloc | apply Kd.R_drewN | apply Kd.R_drew)); exact Kd.R_mono (Kd.R_far (p := ⟨gb232, 2, none⟩) (Kd.R_far (p := ⟨gb232, 1, none⟩) (Kd.R_far (p := ⟨gb232, 0, none⟩) (Kd.R_mono HO_4.out (fun k_ hk => (⟨hk, hk.2⟩ : _ ∧ k_ ≠ gb232))) (fun _ hk => hk.2) (.int .i64 t227)) (fun _ hk => hk.2) (.string t228)) (fun _ hk => hk.2) (.int .i64 t229)) (fun _ hk => hk.1.2))); (case aS => exact (below_size (by repeat (first | (with_reducible first | exact HB.out | apply below_alloc | apply pw_below_drewN | apply below_drew1 | refine below_set ?_ GE232.out) | exact HB.out)))); (case aL => have := LMc7.out; omega); intro v234 w13 ho hb hg hat; rw [← Ny233.out] at ho; have n0_ := Aside0.mk (blk_grown (g := gb232) (o := .cells #[.int .i64 t227, .string t228, .int .i64 t229] 106 (0, 0)) (by (with_reducible repeat (first | refine blk_drewN ?_ _ | refine blk_drew ?_ | refine blk_alloc ?_ _)); refine blk_put (cs := #[.int .i64 t227, .string t228, .int .i64 0]) ?_ 2 _ rfl; (with_reducible repeat (first | refine blk_drewN ?_ _ | refine blk_drew ?_ | refine blk_alloc ?_ _)); refine blk_put (cs := #[.int .i64 t227, .string (⟨#[]⟩ : ByteArray), .int .i64 0]) ?_ 1 _ rfl; (with_reducible repeat (first | refine blk_drewN ?_ _ | refine blk_drew ?_ | refine blk_alloc ?_ _)); refine blk_put (cs := #[.int .i64 0, .string (⟨#[]⟩ : ByteArray), .int .i64 0]) ?_ 0 _ rfl; (with_reducible repeat (first | refine blk_drewN ?_ _ | refine blk_drew ?_ | refine blk_alloc ?_ _)); exact BK232.out) hg (Kd.R_away HO_4.out (fun _ hk => hk.2))); have n1_ := Aside0.mk (hb); have n2_ := Aside0.mk (ho); clear BK232; clear HB; clear HO_4; have BK232 := n0_; have HB := n1_; have HO235 := n2_; clear n0_ n1_ n2_; clear ho hb hg hat))
                    go_roundg k1
                    case measure => have := HK1.out; omega
                    case rel => exact ⟨(x0_1.extract (t230 : Int).toNat x0_1.size), (y233), (by first | rfl | (simp; done) | (simp [*]; done)), H', ⟨by have := HK1.out; omega⟩, ⟨by (with_reducible repeat (first | apply Kd.R_alloc | apply Kd.R_drewN | apply Kd.R_drew)); exact Kd.R_mono HO235.out (fun _ hk => trivial)⟩, ⟨by repeat (first | (with_reducible first | exact HB.out | apply below_alloc | apply pw_below_drewN | apply below_drew1 | refine below_set ?_ GE232.out) | exact HB.out)⟩⟩
                  · rw [if_neg c9] at H
                    exact absurd H (by simp)
                · rw [if_neg c8] at H
                  exact absurd H (by simp)
              · rw [if_neg c7] at H
                exact absurd H (by simp)
            · rw [if_neg c6] at H
              have c6b0 : decide (0 < t227) = false := decide_eq_false c6
              clear c6
              by_cases c14 : 0 ≤ t230
              · rw [if_pos c14] at H
                have c14b0 := eq_true c14
                have c14b1 : decide (0 ≤ t230) = true := decide_eq_true c14
                clear c14
                by_cases c15 : t230 ≤ (x0_1.size : Int)
                · rw [if_pos c15] at H
                  have c15b0 := eq_true c15
                  have c15b1 : decide (t230 ≤ (x0_1.size : Int)) = true := decide_eq_true c15
                  clear c15
                  have H' := Aside0.mk H
                  clear H
                  go_wp2_with (first | ((with_reducible refine gate_callee (f := 59) rfl ?_); refine goesL_ (some 15) rfl rfl Tryz.func59 (by kernel_rfl) rfl #[.string x0_1] rfl (by (try simp only [List.map_toArray, List.map_cons, List.map_nil]); first | done | rfl | (simp only [List.length_drop, List.length_take]; rfl)) ?_; (with_reducible refine (lex_next.calls k1 x0_1 t227 t228 t229 t230 true _ ?side1 A4.out).mono ?_); (case side1 => exact GL.below HG.out (by repeat (first | (with_reducible first | exact HB.out | apply below_alloc | apply pw_below_drewN | apply below_drew1) | exact HB.out))); rintro e w16 ⟨rfl, hb⟩; refine ⟨_, rfl, ?_⟩; have n0_ := Aside0.mk (Kd.R_below (by (with_reducible repeat (first | apply Kd.R_alloc | apply Kd.R_drewN | apply Kd.R_drew)); exact HO_4.out) hb); have n1_ := Aside0.mk (below_step (by repeat (first | (with_reducible first | exact HB.out | apply below_alloc | apply pw_below_drewN | apply below_drew1) | exact HB.out)) hb); clear HO_4; clear HB; have HO_4 := n0_; have HB := n1_; clear n0_ n1_; (try clear hb); (try clear hb2); (try clear hk); (try clear hi)) | ((with_reducible refine gate_dst (N := 5) rfl ?_); refine box_event ?hg (N := 5) ?hd (cs := #[.int .i64 0, .string (⟨#[]⟩ : ByteArray), .int .i64 0]) (t := 106) ?hr ?_; (case hd => rfl); (case hg => rfl); (case hr => first | (go_simp; done) | (go_simp; rfl)); intro gb232 hg w17 hbox hb; have n0_ := Aside0.mk (Kd.R_below (Kd.R_elderB (by (with_reducible repeat (first | apply Kd.R_alloc | apply Kd.R_drewN | apply Kd.R_drew)); exact HO_4.out) gb232 (Nat.le_of_eq hg.symm)) hb); have n1_ := Aside0.mk (below_step (by repeat (first | (with_reducible first | exact HB.out | apply below_alloc | apply pw_below_drewN | apply below_drew1) | exact HB.out)) hb); have n2_ := Aside0.mk (hbox); have n3_ := Aside0.mk ((by rw [hg]; exact (below_size (by repeat (first | (with_reducible first | exact HB.out | apply below_alloc | apply pw_below_drewN | apply below_drew1) | exact HB.out))) : w.heap.size ≤ gb232)); have n4_ := Aside0.mk ((by rw [hg]; exact (below_size (by repeat (first | (with_reducible first | exact HB.out | apply below_alloc | apply pw_below_drewN | apply below_drew1) | exact HB.out))) : w.heap.size ≤ gb232)); clear HO_4; clear HB; have HO_4 := n0_; have HB := n1_; have BK232 := n2_; have GW232 := n3_; have GE232 := n4_; clear n0_ n1_ n2_ n3_ n4_; clear hb hbox hg; have hcz18_0 : w17.cell? ⟨gb232, 0, none⟩ = some (.int .i64 0) := (blk_cell BK232.out 0).trans rfl; have hcz18_1 : w17.cell? ⟨gb232, 1, none⟩ = some (.string (⟨#[]⟩ : ByteArray)) := (blk_cell BK232.out 1).trans rfl; have hcz18_2 : w17.cell? ⟨gb232, 2, none⟩ = some (.int .i64 0) := (blk_cell BK232.out 2).trans rfl; have hfz18_0 := blk_frozen BK232.out 0; have hfz18_1 := blk_frozen BK232.out 1; have hfz18_2 := blk_frozen BK232.out 2))
                  go_roundg k1
                  case measure => have := HK1.out; omega
                  case rel => exact ⟨(x0_1.extract (t230 : Int).toNat x0_1.size), (x4_1), (by first | rfl | (simp; done) | (simp [*]; done)), H', ⟨by have := HK1.out; omega⟩, ⟨by (with_reducible repeat (first | apply Kd.R_alloc | apply Kd.R_drewN | apply Kd.R_drew)); exact Kd.R_mono (Kd.R_far (p := ⟨gb232, 2, none⟩) (Kd.R_far (p := ⟨gb232, 1, none⟩) (Kd.R_far (p := ⟨gb232, 0, none⟩) (Kd.R_mono HO_4.out (fun k_ hk => (⟨hk, hk.2⟩ : _ ∧ k_ ≠ gb232))) (fun _ hk => hk.2) (.int .i64 t227)) (fun _ hk => hk.2) (.string t228)) (fun _ hk => hk.2) (.int .i64 t229)) (fun _ hk => trivial)⟩, ⟨by repeat (first | (with_reducible first | exact HB.out | apply below_alloc | apply pw_below_drewN | apply below_drew1 | refine below_set ?_ GE232.out) | exact HB.out)⟩⟩
                · rw [if_neg c15] at H
                  exact absurd H (by simp)
              · rw [if_neg c14] at H
                exact absurd H (by simp)
          · replace c5 := Bool.eq_false_iff.mpr c5
            subst c5
            have H1 : (some (([] : List (S106)), 2)) = some (r1, r2) := by rw [if_neg (show ¬ (false = true) by decide)] at H; exact H
            clear H
            have H := H1
            clear H1
            simp only [Option.some.injEq, Prod.mk.injEq] at H
            obtain ⟨rfl, rfl⟩ := H
            go_wp2_with (first | ((with_reducible refine gate_callee (f := 59) rfl ?_); refine goesL_ (some 15) rfl rfl Tryz.func59 (by kernel_rfl) rfl #[.string x0_1] rfl (by (try simp only [List.map_toArray, List.map_cons, List.map_nil]); first | done | rfl | (simp only [List.length_drop, List.length_take]; rfl)) ?_; (with_reducible refine (lex_next.calls k1 x0_1 t227 t228 t229 t230 false _ ?side1 A4.out).mono ?_); (case side1 => exact GL.below HG.out (by repeat (first | (with_reducible first | exact HB.out | apply below_alloc | apply pw_below_drewN | apply below_drew1) | exact HB.out))); rintro e w19 ⟨rfl, hb⟩; refine ⟨_, rfl, ?_⟩; have n0_ := Aside0.mk (Kd.R_below (by (with_reducible repeat (first | apply Kd.R_alloc | apply Kd.R_drewN | apply Kd.R_drew)); exact HO_4.out) hb); have n1_ := Aside0.mk (below_step (by repeat (first | (with_reducible first | exact HB.out | apply below_alloc | apply pw_below_drewN | apply below_drew1) | exact HB.out)) hb); clear HO_4; clear HB; have HO_4 := n0_; have HB := n1_; clear n0_ n1_; (try clear hb); (try clear hb2); (try clear hk); (try clear hi)) | ((with_reducible refine gate_dst (N := 5) rfl ?_); refine box_event ?hg (N := 5) ?hd (cs := #[.int .i64 0, .string (⟨#[]⟩ : ByteArray), .int .i64 0]) (t := 106) ?hr ?_; (case hd => rfl); (case hg => rfl); (case hr => first | (go_simp; done) | (go_simp; rfl)); intro gb232 hg w20 hbox hb; have n0_ := Aside0.mk (Kd.R_below (Kd.R_elderB (by (with_reducible repeat (first | apply Kd.R_alloc | apply Kd.R_drewN | apply Kd.R_drew)); exact HO_4.out) gb232 (Nat.le_of_eq hg.symm)) hb); have n1_ := Aside0.mk (below_step (by repeat (first | (with_reducible first | exact HB.out | apply below_alloc | apply pw_below_drewN | apply below_drew1) | exact HB.out)) hb); have n2_ := Aside0.mk (hbox); have n3_ := Aside0.mk ((by rw [hg]; exact (below_size (by repeat (first | (with_reducible first | exact HB.out | apply below_alloc | apply pw_below_drewN | apply below_drew1) | exact HB.out))) : w.heap.size ≤ gb232)); have n4_ := Aside0.mk ((by rw [hg]; exact (below_size (by repeat (first | (with_reducible first | exact HB.out | apply below_alloc | apply pw_below_drewN | apply below_drew1) | exact HB.out))) : w.heap.size ≤ gb232)); clear HO_4; clear HB; have HO_4 := n0_; have HB := n1_; have BK232 := n2_; have GW232 := n3_; have GE232 := n4_; clear n0_ n1_ n2_ n3_ n4_; clear hb hbox hg; have hcz21_0 : w20.cell? ⟨gb232, 0, none⟩ = some (.int .i64 0) := (blk_cell BK232.out 0).trans rfl; have hcz21_1 : w20.cell? ⟨gb232, 1, none⟩ = some (.string (⟨#[]⟩ : ByteArray)) := (blk_cell BK232.out 1).trans rfl; have hcz21_2 : w20.cell? ⟨gb232, 2, none⟩ = some (.int .i64 0) := (blk_cell BK232.out 2).trans rfl; have hfz21_0 := blk_frozen BK232.out 0; have hfz21_1 := blk_frozen BK232.out 1; have hfz21_2 := blk_frozen BK232.out 2))
            go_ret2
            exact ⟨_, by first | rfl | (simp [errW_none, errW_some] <;> rfl) | (simp [*, errW_none, errW_some] <;> rfl), by first | exact Kd.R_nil _ _ _ _ _ | exact Kd.N_nil _ _ _ _ _ | exact Kd.V_nil _ _ _ _ _ | exact Kd.Q_nil _ _ _ _ _ | exact Kd.S_nil _ _ _ _ _, by repeat (first | (with_reducible first | exact HB.out | apply below_alloc | apply pw_below_drewN | apply below_drew1 | refine below_set ?_ GE232.out) | exact HB.out)⟩
end Go.Proofs.YtchekgnacodolaaGreatDoor.X
end
section
namespace Go.Proofs.YtchekgnacodolaaGreatDoor.X
open Go.RowKit Go.Proofs.YtchekgnacodolaaGreatDoorW.PrintWords
set_option linter.unusedSimpArgs false
set_option linter.unusedVariables false
abbrev TokT := S106
def B (l : List UInt8) : ByteArray := ⟨l.toArray⟩
theorem B_list (l : List UInt8) : (B l).data.toList = l := rfl
theorem B_size (l : List UInt8) : (B l).size = l.length := by simp [B, ByteArray.size]
theorem B_of (s : ByteArray) : B s.data.toList = s := by cases s; simp [B]
theorem size_len (s : ByteArray) : s.size = s.data.toList.length := by rw [Array.length_toList]; rfl
theorem B_append (l m : List UInt8) : B l ++ B m = B (l ++ m) := by
  apply ByteArray.ext; simp [B, ByteArray.data_append]
theorem B_extract (l : List UInt8) (a b : Nat) : (B l).extract a b = B ((l.drop a).take (b - a)) := by
  rw [← B_of ((B l).extract a b), Lib.extract_data]; rfl
theorem B_toList (l : List UInt8) : (B l).toList = l := by rw [ByteArray.toList_eq]; rfl
theorem bt_B (l : List UInt8) (i : Nat) (h : i < l.length) : bt (B l) (i : Int) = ((l[i]'h).toNat : Int) := by
  unfold bt
  rw [dif_pos (by rw [B_size]; simpa using h)]
  rfl
theorem wrap_id {x : Int} (h0 : -9223372036854775808 ≤ x) (h1 : x ≤ 9223372036854775807) : wrap64 x = x := by
  unfold wrap64; omega
def isDig (b : UInt8) : Bool := 48 ≤ b.toNat && b.toNat ≤ 57
def isLet (b : UInt8) : Bool := (97 ≤ b.toNat && b.toNat ≤ 122) || (65 ≤ b.toNat && b.toNat ≤ 90)
def isWord (b : UInt8) : Bool := isLet b || isDig b
abbrev digitSet : ByteArray := ⟨#[48, 49, 50, 51, 52, 53, 54, 55, 56, 57]⟩
abbrev wordSet : ByteArray := ⟨#[97, 98, 99, 100, 101, 102, 103, 104, 105, 106, 107, 108, 109, 110, 111, 112, 113, 114, 115, 116, 117, 118, 119, 120, 121, 122, 65, 66, 67, 68, 69, 70, 71, 72, 73, 74, 75, 76, 77, 78, 79, 80, 81, 82, 83, 84, 85, 86, 87, 88, 89, 90, 48, 49, 50, 51, 52, 53, 54, 55, 56, 57]⟩
theorem all_bytes {p : UInt8 → Bool} (h : (List.range 256).all (fun n => p (UInt8.ofNat n)) = true) (b : UInt8) : p b = true := by
  have := List.all_eq_true.1 h b.toNat (by simp; exact b.toNat_lt)
  simpa using this
theorem inSet_digits (b : UInt8) : inSet digitSet b.toNat = isDig b := by
  have := all_bytes (p := fun b => inSet digitSet b.toNat == isDig b) (by decide +kernel) b
  simpa using this
theorem inSet_words (b : UInt8) : inSet wordSet b.toNat = isWord b := by
  have := all_bytes (p := fun b => inSet wordSet b.toNat == isWord b) (by decide +kernel) b
  simpa using this
theorem indexByte_words (b : UInt8) : decide (0 ≤ Lib.indexByte wordSet.data.toList b) = isWord b := by
  have := all_bytes (p := fun b => decide (0 ≤ Lib.indexByte wordSet.data.toList b) == isWord b) (by decide +kernel) b
  simpa using this
theorem letter_eq (b : UInt8) : lat_letter.f (b.toNat : Int) = some (isLet b) := by
  have := all_bytes (p := fun b => lat_letter.f (b.toNat : Int) == some (isLet b)) (by decide +kernel) b
  simpa using this
def nameL (l : List UInt8) : Bool := match l with
  | [] => false
  | b :: r => isLet b && r.all isWord && decide (l.length ≤ 16)
def nameFrom (i : Nat) (l : List UInt8) : Bool := match i, l with
  | _, [] => true
  | 0, b :: r => isLet b && r.all isWord
  | _, l => l.all isWord
theorem name_loop (l : List UInt8) (hl : l.length ≤ 9223372036854775806) (d : Nat) : ∀ (k i : Nat), i ≤ l.length → l.length - i = d → d < k →
    lat_Name.l0 k (B l) ((B l).size : Int) (i : Int) = some (nameFrom i (l.drop i) && decide (0 < l.length ∧ l.length ≤ 16)) := by
  induction d with
  | zero =>
    intro k i h1 h2 h3
    obtain ⟨k, rfl⟩ : ∃ m, k = m + 1 := ⟨k - 1, by omega⟩
    have hi : i = l.length := by omega
    subst hi
    simp only [lat_Name.l0]
    rw [B_size, if_neg (by omega), List.drop_length]
    have : nameFrom l.length [] = true := by cases h : l.length <;> rfl
    rw [this]
    by_cases h0 : 0 < l.length
    · rw [if_pos (by omega)]; simp [h0]; omega
    · rw [if_neg (by omega)]; simp [h0]
  | succ d ih =>
    intro k i h1 h2 h3
    obtain ⟨k, rfl⟩ : ∃ m, k = m + 1 := ⟨k - 1, by omega⟩
    have hlt : i < l.length := by omega
    have hgo := ih k (i + 1) (by omega) (by omega) (by omega)
    simp only [lat_Name.l0]
    rw [B_size] at hgo ⊢
    rw [if_pos (by omega), if_pos (by omega), if_pos (by omega), bt_B l i hlt, letter_eq]
    have hw : wrap64 ((i : Int) + 1) = ((i + 1 : Nat) : Int) := by rw [wrap_id (by omega) (by omega)]; rfl
    simp only [Option.bind_some]
    rw [hw, hgo]
    have hd : l.drop i = l[i] :: l.drop (i + 1) := List.drop_eq_getElem_cons hlt
    rw [hd]
    have hnf : nameFrom (i + 1) (l.drop (i + 1)) = (l.drop (i + 1)).all isWord := by
      cases h : l.drop (i + 1) <;> simp [nameFrom]
    rw [hnf]
    generalize hb : l[i] = b
    have key : nameFrom i (b :: l.drop (i + 1)) = ((if i = 0 then isLet b else isWord b) && (l.drop (i + 1)).all isWord) := by
      cases i with
      | zero => simp [nameFrom]
      | succ i => simp [nameFrom]
    rw [key]
    by_cases h48 : (b.toNat : Int) ≥ 48
    · rw [if_pos h48]
      cases hL : isLet b with
      | true =>
        rw [if_pos rfl]
        have : isWord b = true := by simp [isWord, hL]
        rw [this]; simp
      | false =>
        rw [if_neg (by simp)]
        by_cases hi0 : (i : Int) = 0
        · rw [if_pos hi0, if_pos (show i = 0 by omega)]; simp
        · rw [if_neg hi0, if_neg (show ¬ i = 0 by omega)]
          by_cases h57 : (b.toNat : Int) ≤ 57
          · rw [if_pos h57]
            have : isWord b = true := by simp [isWord, isDig]; right; omega
            rw [this]; simp
          · rw [if_neg h57]
            have : isWord b = false := by simp [isWord, isDig, hL]; omega
            rw [this]; simp
    · rw [if_neg h48]
      have hL : isLet b = false := by simp [isLet]; omega
      have hW : isWord b = false := by simp [isWord, isLet, isDig]; omega
      rw [hL, if_neg (by simp), hW]
      by_cases hi0 : (i : Int) = 0
      · rw [if_pos hi0]; simp
      · rw [if_neg hi0]; simp
theorem name_eq (l : List UInt8) (hl : l.length ≤ 9223372036854775806) (k : Nat) (hk : l.length < k) : lat_Name.f k (B l) = some (nameL l) := by
  unfold lat_Name.f
  have := name_loop l hl l.length k 0 (by omega) (by omega) hk
  rw [show ((0 : Nat) : Int) = 0 from rfl] at this
  rw [this, List.drop_zero]
  cases l with
  | nil => rfl
  | cons b r => simp [nameFrom, nameL]
structure Nx where
  kind : Int
  text : List UInt8
  n : Int
  long : Nat
  ok : Bool
def markL (l : List UInt8) : Option (List UInt8) := (markWords[markIdx (B l)]?).map (·.data.toList)
def wordTok (d : List UInt8) : Nx := if isKey (B d) = true then ⟨3, d, 0, d.length, true⟩ else ⟨1, d, 0, d.length, nameL d⟩
def nextL : List UInt8 → Nx
  | [] => ⟨0, [], 0, 0, false⟩
  | b :: l =>
    if b.toNat = 35 then ⟨0, [], 0, ((b :: l).takeWhile (· != 10)).length, true⟩
    else if b.toNat = 32 ∨ b.toNat = 10 then ⟨0, [], 0, 1, true⟩
    else if isDig b = true then ⟨2, (b :: l).takeWhile isDig, (numOf (B ((b :: l).takeWhile isDig))).1, ((b :: l).takeWhile isDig).length, (numOf (B ((b :: l).takeWhile isDig))).2⟩
    else if isWord b = true then wordTok ((b :: l).takeWhile isWord)
    else match markL (b :: l) with
      | some m => ⟨4, m, 0, m.length, true⟩
      | none => ⟨0, [], 0, 0, false⟩
theorem nextL_cons (b : UInt8) (l : List UInt8) : nextL (b :: l) =
    if b.toNat = 35 then ⟨0, [], 0, ((b :: l).takeWhile (· != 10)).length, true⟩
    else if b.toNat = 32 ∨ b.toNat = 10 then ⟨0, [], 0, 1, true⟩
    else if isDig b = true then ⟨2, (b :: l).takeWhile isDig, (numOf (B ((b :: l).takeWhile isDig))).1, ((b :: l).takeWhile isDig).length, (numOf (B ((b :: l).takeWhile isDig))).2⟩
    else if isWord b = true then wordTok ((b :: l).takeWhile isWord)
    else match markL (b :: l) with
      | some m => ⟨4, m, 0, m.length, true⟩
      | none => ⟨0, [], 0, 0, false⟩ := rfl
theorem run_eq (l : List UInt8) (set : ByteArray) (p : UInt8 → Bool) (ha : asciiSet set = true) (hp : ∀ b, inSet set b.toNat = p b) (hl : l.length ≤ 140737488355328) :
    lex_run.f (B l) set = some ((l.takeWhile p).length : Int) := by
  unfold lex_run.f lex_cutLeft.f
  rw [if_pos ⟨ha, by rw [B_size]; exact hl⟩]
  simp only [Option.bind_some]
  have h1 : (l.takeWhile p).length + (l.dropWhile p).length = l.length := by
    rw [← List.length_append, List.takeWhile_append_dropWhile]
  have h2 : (fun b : UInt8 => inSet set b.toNat) = p := funext hp
  rw [show (B l).data.toList = l from rfl, h2]
  rw [B_size, show (⟨(l.dropWhile p).toArray⟩ : ByteArray) = B (l.dropWhile p) from rfl, B_size, wrap_id (by omega) (by omega)]
  congr 1
  omega
theorem index_nl : ∀ l : List UInt8, (Lib.index l [10] = -1 ∧ l.takeWhile (· != 10) = l) ∨ (Lib.index l [10] = ((l.takeWhile (· != 10)).length : Int))
  | [] => by left; simp [Lib.index]
  | b :: l => by
    unfold Lib.index
    by_cases hb : b = 10
    · subst hb
      right
      simp
    · have h1 : ([10] : List UInt8).isPrefixOf (b :: l) = false := by simp [List.isPrefixOf]; first | done | exact fun h => hb h.symm
      rw [if_neg (by rw [h1]; simp)]
      have h2 : (b :: l).takeWhile (· != 10) = b :: l.takeWhile (· != 10) := by simp [hb]
      rw [h2]
      rcases index_nl l with ⟨h, h3⟩ | h
      · left; rw [h, h3]; simp
      · right
        rw [h]
        rw [if_neg (by simp)]
        simp
theorem cut_nl (l : List UInt8) : (Lib.cut l [10]).1 = l.takeWhile (· != 10) := by
  unfold Lib.cut
  rcases index_nl l with ⟨h, h3⟩ | h
  · rw [h, if_neg (by decide)]; exact h3.symm
  · rw [h, if_pos (by omega)]
    simp only [Int.toNat_natCast]
    have : l.takeWhile (· != 10) <+: l := List.takeWhile_prefix _
    exact (List.prefix_iff_eq_take.1 this).symm
theorem token_eq (k : Nat) (d : List UInt8) (hd : d.length ≤ 9223372036854775806) (hk : d.length < k) :
    lex_token.f k (B d) = some ((wordTok d).kind, B (wordTok d).text, (wordTok d).n, (wordTok d).ok) := by
  unfold lex_token.f lex_Keyword.f
  simp only [Option.bind_some]
  unfold wordTok
  by_cases h : isKey (B d) = true
  · rw [if_pos h, if_pos h]
  · rw [if_neg h, if_neg h, name_eq d hd k hk]; rfl
theorem wordTok_text (d : List UInt8) : (wordTok d).text = d := by unfold wordTok; split <;> rfl
theorem wordTok_long (d : List UInt8) : (wordTok d).long = d.length := by unfold wordTok; split <;> rfl
theorem mark_eq (l : List UInt8) : lex_mark.f (B l) = some (match markL l with | some m => (4, B m, 0, true) | none => (0, B [], 0, false)) := by
  unfold lex_mark.f markL
  by_cases h : markIdx (B l) < 13
  · rw [if_pos h]
    have h1 : markIdx (B l) < markWords.length := h
    rw [List.getElem?_eq_getElem h1]
    simp only [Option.map_some]
    rw [B_of, List.getD_eq_getElem?_getD, List.getElem?_eq_getElem h1]; rfl
  · rw [if_neg h]
    have h1 : ¬ markIdx (B l) < markWords.length := h
    rw [List.getElem?_eq_none (by omega)]; rfl
theorem take_size (l : List UInt8) (p : UInt8 → Bool) : (B l).extract 0 (((l.takeWhile p).length : Int)).toNat = B (l.takeWhile p) := by
  rw [B_extract, Int.toNat_natCast, List.drop_zero, Nat.sub_zero]
  exact congrArg B (List.prefix_iff_eq_take.1 (List.takeWhile_prefix p)).symm
theorem tw_le (l : List UInt8) (p : UInt8 → Bool) : (l.takeWhile p).length ≤ l.length := (List.takeWhile_prefix p).length_le
theorem next_eq (k : Nat) (b : UInt8) (l : List UInt8) (hl : (b :: l).length ≤ 65536) (hk : (b :: l).length + 1 < k) :
    lex_next.f k (B (b :: l)) = some ((nextL (b :: l)).kind, B (nextL (b :: l)).text, (nextL (b :: l)).n, ((nextL (b :: l)).long : Int), (nextL (b :: l)).ok) := by
  have hb0 : bt (B (b :: l)) 0 = (b.toNat : Int) := bt_B (b :: l) 0 (by simp)
  have hlen : 0 < (b :: l).length := by simp
  have hdig := tw_le (b :: l) isDig
  have hwrd := tw_le (b :: l) isWord
  unfold lex_next.f
  rw [nextL_cons, hb0, B_size, if_pos (by omega)]
  by_cases h35 : b.toNat = 35
  · rw [if_pos (by omega), if_pos h35]
    unfold strings_Cut.f
    rw [if_pos (by rw [B_size]; omega)]
    simp only [Option.bind_some]
    show some (0, _, 0, (((B (Lib.cut (b :: l) [10]).1).size : Nat) : Int), true) = _
    rw [B_size, cut_nl]
    rfl
  · rw [if_neg (show ¬ (b.toNat : Int) = 35 by omega), if_neg h35]
    by_cases h32 : b.toNat = 32
    · rw [if_pos (by omega), if_pos (Or.inl h32)]; rfl
    · rw [if_neg (show ¬ (b.toNat : Int) = 32 by omega)]
      by_cases h10 : b.toNat = 10
      · rw [if_pos (by omega), if_pos (Or.inr h10)]; rfl
      · rw [if_neg (show ¬ (b.toNat : Int) = 10 by omega), if_neg (show ¬ (b.toNat = 32 ∨ b.toNat = 10) by omega)]
        obtain ⟨k, rfl⟩ : ∃ m, k = m + 1 := ⟨k - 1, by omega⟩
        by_cases hd : isDig b = true
        · have hd2 : 48 ≤ b.toNat ∧ b.toNat ≤ 57 := by simpa [isDig] using hd
          rw [if_pos (by omega), if_pos hd]
          simp only [lex_next.j0]
          rw [if_pos (by simp; omega)]
          rw [show (⟨#[48, 49, 50, 51, 52, 53, 54, 55, 56, 57]⟩ : ByteArray) = digitSet from rfl, run_eq (b :: l) digitSet isDig (by decide +kernel) inSet_digits (by omega)]
          simp only [Option.bind_some]
          rw [if_pos (by omega), if_pos (by rw [B_size]; omega), take_size]
          unfold lex_number.f
          rw [if_pos (by rw [B_size]; omega)]
          rfl
        · rw [if_neg hd]
          have hj : (if (b.toNat : Int) ≥ 48 then lex_next.j0 (k + 1) (B (b :: l)) (b.toNat : Int) (decide ((b.toNat : Int) ≤ 57)) else lex_next.j0 (k + 1) (B (b :: l)) (b.toNat : Int) false) = lex_next.j0 (k + 1) (B (b :: l)) (b.toNat : Int) false := by
            split
            · have : decide ((b.toNat : Int) ≤ 57) = false := by
                simp [isDig] at hd
                simp; omega
              rw [this]
            · rfl
          rw [hj]
          simp only [lex_next.j0]
          rw [if_neg (by decide)]
          unfold strings_IndexByte.f
          simp only [Option.bind_some]
          have hib : (0 ≤ Lib.indexByte wordSet.data.toList b) ↔ isWord b = true := by
            rw [← indexByte_words b]; simp
          have he : ((b.toNat : Int)).toNat.toUInt8 = b := by simp
          rw [he]
          by_cases hw : isWord b = true
          · rw [if_pos (hib.2 hw), if_pos hw]
            rw [run_eq (b :: l) wordSet isWord (by decide +kernel) inSet_words (by omega)]
            simp only [Option.bind_some]
            rw [if_pos (by omega), if_pos (by rw [B_size]; omega), take_size, token_eq k _ (by omega) (by omega)]
            simp only [Option.bind_some]
            rw [wordTok_long]
          · rw [if_neg (fun h => hw (hib.1 h)), if_neg hw, mark_eq]
            cases hm : markL (b :: l) with
            | none => simp only [Option.bind_some]; rfl
            | some m => simp only [Option.bind_some]; rw [B_size]
end Go.Proofs.YtchekgnacodolaaGreatDoor.X
end
section
namespace Go.Proofs.YtchekgnacodolaaGreatDoor.X
open Go.RowKit Go.Proofs.YtchekgnacodolaaGreatDoorW.PrintWords
set_option linter.unusedSimpArgs false
set_option linter.unusedVariables false
theorem markL_mem {l m : List UInt8} (h : markL l = some m) : m ∈ markWords.map (·.data.toList) ∧ m.isPrefixOf l = true := by
  unfold markL at h
  rw [Option.map_eq_some_iff] at h
  obtain ⟨x, hx, rfl⟩ := h
  refine ⟨List.mem_map.2 ⟨x, List.mem_of_getElem? hx, rfl⟩, ?_⟩
  have hlt : markWords.findIdx (preOf (B l)) < markWords.length := by
    rcases Nat.lt_or_ge (markWords.findIdx (preOf (B l))) markWords.length with h | h
    · exact h
    · unfold markIdx at hx
      rw [List.getElem?_eq_none h] at hx; cases hx
  have h1 := List.findIdx_getElem (w := hlt)
  unfold markIdx at hx
  rw [List.getElem?_eq_getElem hlt] at hx
  injection hx with hx
  rw [hx] at h1
  exact h1
def Sep (t : List UInt8) : Prop := t = [] ∨ ∃ c r, t = c :: r ∧ (c = 32 ∨ c = 10 ∨ c = 35)
theorem Sep.not {t : List UInt8} (h : Sep t) (p : UInt8 → Bool) (h1 : p 32 = false) (h2 : p 10 = false) (h3 : p 35 = false) : t = [] ∨ ∃ c r, t = c :: r ∧ p c = false := by
  rcases h with h | ⟨c, r, h, hc⟩
  · exact .inl h
  · refine .inr ⟨c, r, h, ?_⟩
    rcases hc with rfl | rfl | rfl <;> assumption
theorem nextL_long {b : UInt8} {l : List UInt8} (h : (nextL (b :: l)).ok = true) : 1 ≤ (nextL (b :: l)).long ∧ (nextL (b :: l)).long ≤ (b :: l).length := by
  rw [nextL_cons] at h ⊢
  split
  · rename_i h35
    have hb : (b != 10) = true := by
      rw [bne_iff_ne]; intro e; rw [e] at h35; exact absurd h35 (by decide)
    exact ⟨by rw [List.takeWhile_cons, if_pos hb]; simp, tw_le _ _⟩
  · split
    · exact ⟨Nat.le_refl _, by simp⟩
    · split
      · rename_i hd
        exact ⟨by rw [List.takeWhile_cons, if_pos hd]; simp, tw_le _ _⟩
      · split
        · rename_i hw
          rw [wordTok_long]
          exact ⟨by rw [List.takeWhile_cons, if_pos hw]; simp, tw_le _ _⟩
        · rename_i h1 h2 h3 h4
          rw [if_neg h1, if_neg h2, if_neg h3, if_neg h4] at h
          cases hm : markL (b :: l) with
          | none => rw [hm] at h; cases h
          | some m =>
            obtain ⟨hmem, hpre⟩ := markL_mem hm
            have hne : (markWords.map (·.data.toList)).all (fun m => 1 ≤ m.length) = true := by decide +kernel
            have := List.all_eq_true.1 hne m hmem
            exact ⟨by simpa using this, (List.isPrefixOf_iff_prefix.1 hpre).length_le⟩
def lexL : Nat → List UInt8 → Option (List TokT)
  | 0, _ => none
  | _ + 1, [] => some []
  | n + 1, b :: l =>
    if (nextL (b :: l)).ok = true then
      if (nextL (b :: l)).kind > 0 then (lexL n ((b :: l).drop (nextL (b :: l)).long)).map (⟨(nextL (b :: l)).kind, B (nextL (b :: l)).text, (nextL (b :: l)).n⟩ :: ·)
      else lexL n ((b :: l).drop (nextL (b :: l)).long)
    else none
theorem lexL_fuel : ∀ (n m : Nat) (l : List UInt8), l.length < n → l.length < m → lexL n l = lexL m l
  | 0, _, l, h, _ => absurd h (by omega)
  | _, 0, l, _, h => absurd h (by omega)
  | n + 1, m + 1, [], _, _ => rfl
  | n + 1, m + 1, b :: l, hn, hm => by
    unfold lexL
    by_cases hok : (nextL (b :: l)).ok = true
    · have hlong := nextL_long hok
      have hd : ((b :: l).drop (nextL (b :: l)).long).length < (b :: l).length := by rw [List.length_drop]; omega
      rw [lexL_fuel n m _ (by omega) (by omega)]
    · rw [if_neg hok, if_neg hok]
def tokL (l : List UInt8) : Option (List TokT) := lexL (l.length + 1) l
theorem tokL_nil : tokL [] = some [] := rfl
theorem tokL_cons (b : UInt8) (l : List UInt8) : tokL (b :: l) =
    if (nextL (b :: l)).ok = true then
      if (nextL (b :: l)).kind > 0 then (tokL ((b :: l).drop (nextL (b :: l)).long)).map (⟨(nextL (b :: l)).kind, B (nextL (b :: l)).text, (nextL (b :: l)).n⟩ :: ·)
      else tokL ((b :: l).drop (nextL (b :: l)).long)
    else none := by
  unfold tokL
  rw [show (b :: l).length + 1 = (b :: l).length + 1 from rfl, lexL]
  by_cases hok : (nextL (b :: l)).ok = true
  · have hlong := nextL_long hok
    have hd : ((b :: l).drop (nextL (b :: l)).long).length < (b :: l).length := by rw [List.length_drop]; omega
    rw [lexL_fuel (b :: l).length (((b :: l).drop (nextL (b :: l)).long).length + 1) _ hd (by omega)]
  · rw [if_neg hok, if_neg hok]
def lexR (l : List UInt8) : List TokT × Int := if l.length > 65536 then ([], 1) else match tokL l with
  | some ts => (ts, 0)
  | none => ([], 2)
theorem lex_loop (d : Nat) : ∀ (k : Nat) (l : List UInt8) (acc : List TokT), l.length ≤ d → d ≤ 65536 → acc.length + l.length ≤ 65536 → 65540 + d < k →
    lex_Lex.l0 k (B l) acc = some (match tokL l with | some ts => (acc ++ ts, 0) | none => ([], 2)) := by
  induction d with
  | zero =>
    intro k l acc h1 h2 h3 h4
    obtain ⟨k, rfl⟩ : ∃ m, k = m + 1 := ⟨k - 1, by omega⟩
    cases l with
    | nil =>
      simp only [lex_Lex.l0]
      rw [B_toList, if_pos rfl, tokL_nil]; simp
    | cons b l => simp at h1
  | succ d ih =>
    intro k l acc h1 h2 h3 h4
    obtain ⟨k, rfl⟩ : ∃ m, k = m + 1 := ⟨k - 1, by omega⟩
    cases l with
    | nil =>
      simp only [lex_Lex.l0]
      rw [B_toList, if_pos rfl, tokL_nil]; simp
    | cons b l =>
      simp only [lex_Lex.l0]
      have hlen : (b :: l).length ≤ 65536 := by omega
      have hpos : 1 ≤ (b :: l).length := by simp
      rw [B_toList, if_neg (by simp), next_eq k b l hlen (by omega), tokL_cons]
      simp only [Option.bind_some]
      by_cases hok : (nextL (b :: l)).ok = true
      · have hlong := nextL_long hok
        have hd : ((b :: l).drop (nextL (b :: l)).long).length = (b :: l).length - (nextL (b :: l)).long := by rw [List.length_drop]
        have hex : (B (b :: l)).extract ((((nextL (b :: l)).long : Nat) : Int)).toNat (B (b :: l)).size = B ((b :: l).drop (nextL (b :: l)).long) := by
          rw [B_extract, Int.toNat_natCast, B_size, List.take_of_length_le (by rw [List.length_drop]; omega)]
        rw [if_pos hok, if_pos hok, hex]
        by_cases hk : (nextL (b :: l)).kind > 0
        · rw [if_pos hk, if_pos hk, if_pos (by omega), if_pos (by omega), if_pos (by rw [B_size]; omega)]
          rw [ih k _ _ (by omega) (by omega) (by rw [List.length_append]; simp only [List.length_cons, List.length_nil]; omega) (by omega)]
          cases tokL ((b :: l).drop (nextL (b :: l)).long) with
          | none => rfl
          | some ts => simp
        · rw [if_neg hk, if_neg hk, if_pos (by omega), if_pos (by rw [B_size]; omega)]
          rw [ih k _ _ (by omega) (by omega) (by omega) (by omega)]
      · rw [if_neg hok, if_neg hok]
theorem lex_eq (k : Nat) (l : List UInt8) (hl : l.length ≤ 9223372036854775807) (hk : 131080 < k) : lex_Lex.f k (B l) = some (lexR l) := by
  unfold lex_Lex.f lexR
  rw [B_size]
  by_cases h : l.length > 65536
  · rw [if_pos (by omega), if_pos h]
  · rw [if_neg (by omega), if_neg h, lex_loop l.length k l [] (Nat.le_refl _) (by omega) (by simp; omega) (by omega)]
    cases tokL l <;> simp
def rightT (t : TokT) : Bool :=
  if t.f0 = 1 ∨ t.f0 = 3 then (wordTok t.f1.data.toList).ok && (wordTok t.f1.data.toList).kind == t.f0 && t.f2 == 0
  else if t.f0 = 2 then (numOf t.f1).2 && decide (0 ≤ (numOf t.f1).1) && (numOf t.f1).1 == t.f2
  else if t.f0 = 4 then markL t.f1.data.toList == some t.f1.data.toList && t.f2 == 0
  else false
theorem wordTok_n (d : List UInt8) : (wordTok d).n = 0 := by unfold wordTok; split <;> rfl
theorem tok_right (k : Nat) (t : TokT) (h1 : t.f1.size ≤ 281474976710656) (hk : t.f1.size < k) : lex_Tok_right.f k t.f0 t.f1 t.f2 = some (rightT t) := by
  obtain ⟨f0, f1, f2⟩ := t
  simp only at h1 hk ⊢
  unfold lex_Tok_right.f rightT
  dsimp only
  have hB := B_of f1
  have hlen : f1.data.toList.length = f1.size := (size_len f1).symm
  have tk := token_eq k f1.data.toList (by omega) (by omega)
  rw [hB] at tk
  have hw : B (wordTok f1.data.toList).text = f1 := by rw [wordTok_text, hB]
  have hsw : ∀ a b : Int, (a == b) = (b == a) := fun a b => by rw [Bool.eq_iff_iff, beq_iff_eq, beq_iff_eq]; exact eq_comm
  by_cases e1 : f0 = 1
  · rw [if_pos e1, if_pos (Or.inl e1), tk]
    simp only [Option.bind_some]
    rw [hw, wordTok_n]
    cases (wordTok f1.data.toList).ok <;> simp [hsw 0 f2]
  · rw [if_neg e1]
    by_cases e3 : f0 = 3
    · rw [if_pos e3, if_pos (Or.inr e3), tk]
      simp only [Option.bind_some]
      rw [hw, wordTok_n]
      cases (wordTok f1.data.toList).ok <;> simp [hsw 0 f2]
    · rw [if_neg e3, if_neg (show ¬ (f0 = 1 ∨ f0 = 3) from fun h => h.elim e1 e3)]
      by_cases e2 : f0 = 2
      · rw [if_pos e2, if_pos e2]
        unfold lex_number.f
        rw [if_pos h1]
        simp only [Option.bind_some]
        cases (numOf f1).2 with
        | false => simp
        | true =>
          rw [if_pos rfl]
          by_cases h0 : (numOf f1).1 ≥ 0
          · rw [if_pos h0]; subst e2; simp; intro; omega
          · rw [if_neg h0]; simp; intro; omega
      · rw [if_neg e2, if_neg e2]
        by_cases e4 : f0 = 4
        · rw [if_pos e4, if_pos e4]
          have hm := mark_eq f1.data.toList
          rw [hB] at hm
          rw [hm]
          cases hq : markL f1.data.toList with
          | none => simp
          | some m =>
            simp only [Option.bind_some]
            subst e4
            have hbb : ((B m).data == f1.data) = (m == f1.data.toList) := by rw [Bool.eq_iff_iff, beq_iff_eq, beq_iff_eq, ← Array.toList_inj, B_list]
            simp [B_toList, ByteArray.toList_eq, hsw 0 f2]
            rw [hbb]
        · rw [if_neg e4, if_neg e4]
          by_cases e5 : f1.toList = []
          · rw [if_pos e5]
          · rw [if_neg e5]
            congr 1
            have : (([] : List UInt8) == f1.toList) = false := by simp [e5]; first | done | exact fun h => e5 h.symm
            rw [this]; simp
theorem right_eq (k : Nat) (l : List TokT) (h : ∀ t ∈ l, t.f1.size ≤ 281474976710656 ∧ t.f1.size < k) : lex_Right.f k l = some (l.all rightT) := by
  induction l with
  | nil => rfl
  | cons t l ih =>
    unfold lex_Right.f
    rw [tok_right k t (h t (by simp)).1 (h t (by simp)).2, ih fun x hx => h x (by simp [hx])]
    simp only [Option.bind_some, List.all_cons]
    cases rightT t <;> simp
theorem decF_dig : ∀ k n, (decF k n).all isDig = true
  | 0, _ => rfl
  | k + 1, n => by
    unfold decF
    split
    · rename_i h
      simp [isDig]
      omega
    · simp [decF_dig k (n / 10), isDig]
      omega
theorem decF_ne (k n : Nat) : decF (k + 1) n ≠ [] := by unfold decF; split <;> simp
def printL : List TokT → List UInt8
  | [] => []
  | [t] => t.f1.data.toList
  | t :: u :: l => t.f1.data.toList ++ 32 :: printL (u :: l)
theorem nextL_right {b : UInt8} {l : List UInt8} (hok : (nextL (b :: l)).ok = true) (hk : (nextL (b :: l)).kind > 0) :
    rightT ⟨(nextL (b :: l)).kind, B (nextL (b :: l)).text, (nextL (b :: l)).n⟩ = true ∧ (nextL (b :: l)).text.length ≤ (b :: l).length := by
  rw [nextL_cons] at hok hk ⊢
  by_cases h1 : b.toNat = 35
  · rw [if_pos h1] at hk; exact absurd hk (by simp)
  · rw [if_neg h1] at hok hk ⊢
    by_cases h2 : b.toNat = 32 ∨ b.toNat = 10
    · rw [if_pos h2] at hk; exact absurd hk (by simp)
    · rw [if_neg h2] at hok hk ⊢
      by_cases h3 : isDig b = true
      · rw [if_pos h3] at hok hk ⊢
        refine ⟨?_, tw_le _ _⟩
        simp only at hok
        unfold rightT
        simp only [B_list]
        rw [if_neg (by decide), if_pos trivial, hok]
        have h0 : 0 ≤ (numOf (B ((b :: l).takeWhile isDig))).1 := by
          unfold numOf
          rw [B_list, List.takeWhile_cons, if_pos h3]
          have hb2 : 48 ≤ b.toNat ∧ b.toNat ≤ 57 := by simpa [isDig] using h3
          have hq := Lib.parseIntB_plain 32 b (l.takeWhile isDig) (by omega) (by omega)
          cases hp : Lib.parseIntB 32 (b :: l.takeWhile isDig) with
          | ok v =>
            simp only
            rw [hp] at hq
            unfold Lib.signlessC at hq
            split at hq
            · cases hq
            · cases hq
            · split at hq
              · cases hq
              · injection hq with hq; omega
          | range =>
            simp only [Lib.intSat]
            split
            · rename_i e
              simp at e
              omega
            · decide
          | _ => simp
        simp [h0]
      · rw [if_neg h3] at hok hk ⊢
        by_cases h4 : isWord b = true
        · rw [if_pos h4] at hok hk ⊢
          refine ⟨?_, by rw [wordTok_text]; exact tw_le _ _⟩
          unfold rightT
          simp only [B_list, wordTok_text]
          have : (wordTok ((b :: l).takeWhile isWord)).kind = 1 ∨ (wordTok ((b :: l).takeWhile isWord)).kind = 3 := by
            unfold wordTok; split
            · exact .inr rfl
            · exact .inl rfl
          rw [if_pos this, hok, wordTok_n]; simp
        · rw [if_neg h4] at hok hk ⊢
          cases hm : markL (b :: l) with
          | none => rw [hm] at hok; cases hok
          | some m =>
            obtain ⟨hmem, hpre⟩ := markL_mem hm
            refine ⟨?_, (List.isPrefixOf_iff_prefix.1 hpre).length_le⟩
            unfold rightT
            simp only [B_list]
            rw [if_neg (by decide), if_neg (by decide), if_pos trivial]
            have hself : (markWords.map (·.data.toList)).all (fun m => markL m == some m) = true := by decide +kernel
            have := List.all_eq_true.1 hself m hmem
            simp at this
            simp [this]
theorem tokL_all (n : Nat) : ∀ (l : List UInt8) (ts : List TokT), l.length ≤ n → tokL l = some ts → ts.all rightT = true ∧ (∀ t ∈ ts, t.f1.size ≤ l.length) ∧ ts.length ≤ l.length := by
  induction n with
  | zero =>
    intro l ts hl h
    have : l = [] := List.length_eq_zero_iff.1 (by omega)
    subst this
    rw [tokL_nil] at h
    injection h with h
    subst h; simp
  | succ n ih =>
    intro l ts hl h
    cases l with
    | nil => exact ih [] ts (by simp) h
    | cons b l =>
      rw [tokL_cons] at h
      by_cases hok : (nextL (b :: l)).ok = true
      · have hlong := nextL_long hok
        rw [if_pos hok] at h
        by_cases hk : (nextL (b :: l)).kind > 0
        · rw [if_pos hk, Option.map_eq_some_iff] at h
          obtain ⟨a, ha, rfl⟩ := h
          obtain ⟨i1, i2, i3⟩ := ih _ a (by rw [List.length_drop]; omega) ha
          obtain ⟨r1, r2⟩ := nextL_right hok hk
          rw [List.length_drop] at i2 i3
          refine ⟨by rw [List.all_cons, r1, i1]; rfl, fun t ht => ?_, by rw [List.length_cons]; omega⟩
          rcases List.mem_cons.1 ht with rfl | ht
          · simp only [B_size]; exact r2
          · exact Nat.le_trans (i2 t ht) (Nat.sub_le _ _)
        · rw [if_neg hk] at h
          obtain ⟨i1, i2, i3⟩ := ih _ ts (by rw [List.length_drop]; omega) h
          rw [List.length_drop] at i2 i3
          exact ⟨i1, fun t ht => Nat.le_trans (i2 t ht) (Nat.sub_le _ _), by omega⟩
      · rw [if_neg hok] at h; cases h
end Go.Proofs.YtchekgnacodolaaGreatDoor.X
end
section
namespace Go.Proofs.YtchekgnacodolaaGreatDoor.X
open Go.RowKit Go.Proofs.YtchekgnacodolaaGreatDoorW.PrintWords
set_option linter.unusedSimpArgs false
set_option linter.unusedVariables false
theorem join_print : ∀ l : List TokT, Lib.join (l.map fun t => t.f1.data.toList) [32] = printL l
  | [] => by simp [Lib.join, printL]
  | [t] => by simp [Lib.join, printL, List.intercalate]
  | t :: u :: l => by
    have ih := join_print (u :: l)
    unfold Lib.join at ih ⊢
    rw [printL, ← ih]
    simp [List.intercalate, List.intersperse]
theorem print_loop (l : List TokT) (hl : l.length < 8796093022208) (hp : (printL l).length ≤ 140737488355328) (d : Nat) : ∀ (k i : Nat), i ≤ l.length → l.length - i = d → d < k →
    lex_Print.l0 k ((l.take i).map (·.f1)) l (l.length : Int) (i : Int) = some (B (printL l)) := by
  induction d with
  | zero =>
    intro k i h1 h2 h3
    obtain ⟨k, rfl⟩ : ∃ m, k = m + 1 := ⟨k - 1, by omega⟩
    have hi : i = l.length := by omega
    subst hi
    simp only [lex_Print.l0]
    rw [if_neg (by omega), List.take_length]
    unfold strings_Join.f
    have hj : (l.map (·.f1)).map (·.data.toList) = l.map fun t => t.f1.data.toList := by rw [List.map_map]; rfl
    rw [hj, show (⟨#[32]⟩ : ByteArray).data.toList = [32] from rfl, join_print l, if_pos ⟨by rw [List.length_map]; omega, hp⟩]
    rfl
  | succ d ih =>
    intro k i h1 h2 h3
    obtain ⟨k, rfl⟩ : ∃ m, k = m + 1 := ⟨k - 1, by omega⟩
    have hlt : i < l.length := by omega
    have hgo := ih k (i + 1) (by omega) (by omega) (by omega)
    simp only [lex_Print.l0]
    rw [if_pos (by omega), if_pos (by omega), if_pos (by omega), if_pos (by rw [List.length_map, List.length_take]; omega)]
    rw [wrap_id (by omega) (by omega)]
    have h4 : (l.take i).map (·.f1) ++ [(rd_T106 l (i : Int)).f1] = (l.take (i + 1)).map (·.f1) := by
      rw [List.take_succ_eq_append_getElem hlt, List.map_append]
      unfold rd_T106
      simp [List.getD_eq_getElem?_getD, List.getElem?_eq_getElem hlt]
    rw [h4]
    exact hgo
theorem print_eq (k : Nat) (l : List TokT) (hl : l.length < 8796093022208) (hk : l.length < k) (hp : (printL l).length ≤ 140737488355328) : lex_Print.f k l = some (B (printL l)) := by
  unfold lex_Print.f
  have := print_loop l hl hp l.length k 0 (by omega) (by omega) hk
  simpa using this
theorem printL_len : ∀ l : List TokT, (printL l).length ≤ (l.map fun t => t.f1.size + 1).sum
  | [] => by simp [printL]
  | [t] => by
    show t.f1.data.toList.length ≤ (t.f1.size + 1) + 0
    rw [← size_len]; omega
  | t :: u :: l => by
    have := printL_len (u :: l)
    rw [printL, List.map_cons, List.sum_cons, List.length_append, List.length_cons, size_len t.f1]
    omega
abbrev Reads (w : World) (A : Option Addr) (c : Nat) (l : List TokT) : Prop := Kd.C k106 w A l.length l ∧ l.length ≤ c
theorem lexC (l : List UInt8) (hl : l.length ≤ 9223372036854775807) (w : World) (hG : GL w) :
    Calls Tryz.prog 26 #[.string (B l)] w fun e w' => ∃ A c, e = .returned (.tuple #[.slice A (lexR l).1.length c, .int .i64 (lexR l).2]) ∧ Reads w' A c (lexR l).1 ∧ (0 < (lexR l).1.length → ∃ g, A = some ⟨g, 0, none⟩) ∧ Below w.heap.size w w' := by
  refine (lex_Lex.calls 131081 (B l) (lexR l).1 (lexR l).2 w hG (lex_eq _ l hl (by omega))).mono ?_
  rintro e w' ⟨v, rfl, hR, hb⟩
  obtain ⟨A, c, rfl, hc, hC⟩ := Kd.R_reads hR
  refine ⟨A, c, rfl, ⟨hC, hc⟩, fun hp => ?_, hb⟩
  obtain ⟨g, cap, hv, -⟩ := Kd.R_form hR hp
  injection hv with hv
  exact ⟨g, hv⟩
theorem printC (l : List TokT) (A : Option Addr) (c : Nat) (hl : l.length < 8796093022208) (hp : (printL l).length ≤ 140737488355328) (w : World) (hr : Reads w A c l) :
    Calls Tryz.prog 64 #[.slice A l.length c] w fun e w' => e = .returned (.string (B (printL l))) ∧ Below w.heap.size w w' :=
  lex_Print.calls (l.length + 1) A c l (B (printL l)) w hr.1 hr.2 (print_eq _ l hl (by omega) hp)
theorem rightC (l : List TokT) (A : Option Addr) (c : Nat) (hs : ∀ t ∈ l, t.f1.size ≤ 281474976710656) (w : World) (hG : GL w) (hr : Reads w A c l) :
    Calls Tryz.prog 28 #[.slice A l.length c] w fun e w' => e = .returned (.bool (l.all rightT)) ∧ Below w.heap.size w w' :=
  lex_Right.calls 281474976710657 A c l (l.all rightT) w hG hr.1 hr.2 (right_eq _ l fun t ht => ⟨hs t ht, by have := hs t ht; omega⟩)
theorem keywordC (s : ByteArray) (w : World) (hG : GL w) :
    Calls Tryz.prog 110 #[.string s] w fun e w' => e = .returned (.bool (isKey s)) ∧ Below w.heap.size w w' := by
  refine (lex_Keyword.calls s (isKey s) w hG rfl).mono ?_
  rintro e w' ⟨rfl, hd⟩
  exact ⟨rfl, hd.below⟩
theorem nameC (l : List UInt8) (hl : l.length ≤ 9223372036854775806) (w : World) :
    Calls Tryz.prog 109 #[.string (B l)] w fun e w' => e = .returned (.bool (nameL l)) ∧ Below w.heap.size w w' := by
  refine (lat_Name.calls (l.length + 1) (B l) (nameL l) w (name_eq l hl _ (by omega))).mono ?_
  rintro e w' ⟨rfl, hd⟩
  exact ⟨rfl, hd.below⟩
theorem Reads.at_ {w : World} {g c : Nat} {l : List TokT} (h : Reads w (some ⟨g, 0, none⟩) c l) (i : Nat) (x : TokT) (hx : l[i]? = some x) :
    w.cell? ⟨g, i * 3, none⟩ = some (.int .i64 x.f0) ∧ w.cell? ⟨g, i * 3 + 1, none⟩ = some (.string x.f1) ∧ w.cell? ⟨g, i * 3 + 2, none⟩ = some (.int .i64 x.f2) := by
  have hlt : i < l.length := by
    rcases Nat.lt_or_ge i l.length with h1 | h1
    · exact h1
    · rw [List.getElem?_eq_none h1] at hx; cases hx
  obtain ⟨ad, e, h0, h1, h2⟩ := at_T106 h.1 (i : Int) (by omega) (by omega)
  cases e
  have hr : rd_T106 l (i : Int) = x := by
    unfold rd_T106
    rw [Int.toNat_natCast, List.getD_eq_getElem?_getD, hx]; rfl
  rw [hr] at h0 h1 h2
  rw [Int.toNat_natCast, add_plain] at h0 h1 h2
  exact ⟨h0, h1, h2⟩
theorem Reads.below {w w1 : World} {A : Option Addr} {c : Nat} {l : List TokT} (h : Reads w A c l) (hb : Below w.heap.size w w1) : Reads w1 A c l := ⟨Kd.C_below h.1 hb, h.2⟩
end Go.Proofs.YtchekgnacodolaaGreatDoor.X
end
section
namespace Go.Proofs.YtchekgnacodolaaGreatDoor.X
set_option linter.unusedSimpArgs false
set_option linter.unusedVariables false
abbrev Tm := S26
theorem Tm.ind {P : Tm → Prop} (h : ∀ a b c l, (∀ t ∈ l, P t) → P ⟨a, b, c, l⟩) (t : Tm) : P t :=
  S26.rec (motive_1 := P) (motive_2 := fun l => ∀ t ∈ l, P t) (fun a b c l ih => h a b c l ih) (fun _ hm => by cases hm)
    (fun x l ihx ihl t hm => (List.mem_cons.1 hm).elim (fun e => e ▸ ihx) (ihl t)) t
mutual
def sizeT : Tm → Nat
  | ⟨_, _, _, kids⟩ => 1 + sizesT kids
def sizesT : List Tm → Nat
  | [] => 0
  | t :: r => sizeT t + sizesT r
end
mutual
def depthT : Tm → Nat
  | ⟨_, _, _, kids⟩ => depthsT kids + 1
def depthsT : List Tm → Nat
  | [] => 0
  | t :: r => max (depthT t) (depthsT r)
end
mutual
def sameTm : Tm → Tm → Bool
  | ⟨a, b, c, l⟩, ⟨a', b', c', l'⟩ => a == a' && (b.toList == b'.toList && (c == c' && samesTm l l'))
def samesTm : List Tm → List Tm → Bool
  | [], [] => true
  | t :: r, t' :: r' => sameTm t t' && samesTm r r'
  | _, _ => false
end
def peekL (s : List TokT) : TokT := s.headD ⟨0, ⟨#[]⟩, 0⟩
def isL (s : List TokT) (m : ByteArray) : Bool := decide (3 ≤ (peekL s).f0) && ((peekL s).f1.data.toList == m.data.toList)
def beginsL (s : List TokT) : Bool := decide ((peekL s).f0 = 1) || (decide ((peekL s).f0 = 2) || (isL s ⟨#[40]⟩ || isL s ⟨#[33]⟩))
theorem isL_nil (m : ByteArray) : isL [] m = false := by simp [isL, peekL]
theorem beginsL_nil : beginsL [] = false := by simp [beginsL, isL_nil]; simp [peekL]
theorem isL_ne {s : List TokT} {m : ByteArray} (h : isL s m = true) : ∃ t r, s = t :: r := by
  cases s with
  | nil => rw [isL_nil] at h; cases h
  | cons t r => exact ⟨t, r, rfl⟩
theorem peek_ne {s : List TokT} (h : (peekL s).f0 ≠ 0) : ∃ t r, s = t :: r := by
  cases s with
  | nil => exact absurd rfl h
  | cons t r => exact ⟨t, r, rfl⟩
def boundL (s : List TokT) (m : ByteArray) : Option (ByteArray × List TokT) :=
  if (peekL s).f0 = 1 then if isL s.tail m = true then some ((peekL s).f1, s.tail.tail) else none else none
abbrev PR := Option (Option (Tm × List TokT))
def PR.then_ (r : PR) (f : Tm → List TokT → PR) : PR := match r with
  | none => none
  | some none => some none
  | some (some (t, s)) => f t s
def PR.key (r : PR) (m : ByteArray) (f : Tm → List TokT → PR) : PR := r.then_ fun t s => if isL s m = true then f t s.tail else some none
def PR.name (o : Option (ByteArray × List TokT)) (f : ByteArray → List TokT → PR) : PR := match o with
  | none => some none
  | some (n, s) => f n s
def PR.ret (t : Tm) (s : List TokT) : PR := some (some (t, s))
abbrev noName : ByteArray := ⟨#[]⟩
def tm (k : Int) (nm : ByteArray) (kids : List Tm) : Tm := ⟨k, nm, 0, kids⟩
def opWords : List ByteArray := [⟨#[43]⟩, ⟨#[45]⟩, ⟨#[42]⟩, ⟨#[60]⟩, ⟨#[61]⟩]
def kFun : ByteArray := ⟨#[102, 117, 110]⟩
def kLet : ByteArray := ⟨#[108, 101, 116]⟩
def kIn : ByteArray := ⟨#[105, 110]⟩
def kIf : ByteArray := ⟨#[105, 102]⟩
def kThen : ByteArray := ⟨#[116, 104, 101, 110]⟩
def kElse : ByteArray := ⟨#[101, 108, 115, 101]⟩
def kWhile : ByteArray := ⟨#[119, 104, 105, 108, 101]⟩
def kDo : ByteArray := ⟨#[100, 111]⟩
def kRaise : ByteArray := ⟨#[114, 97, 105, 115, 101]⟩
def kTry : ByteArray := ⟨#[116, 114, 121]⟩
def kWith : ByteArray := ⟨#[119, 105, 116, 104]⟩
def mArrow : ByteArray := ⟨#[61, 62]⟩
def mSet : ByteArray := ⟨#[58, 61]⟩
def mOpen : ByteArray := ⟨#[40]⟩
def mClose : ByteArray := ⟨#[41]⟩
def mSeq : ByteArray := ⟨#[59]⟩
def mEq : ByteArray := ⟨#[61]⟩
def mGet : ByteArray := ⟨#[33]⟩
inductive Mode where
  | part
  | apps (t : Tm)
  | parts
  | plain
  | one
  | all
def run : Nat → Mode → List TokT → PR
  | 0, _, _ => none
  | k + 1, .part, s =>
    if isL s mGet = true then (run k .part s.tail).then_ fun t s => PR.ret (tm 10 noName [t]) s
    else if isL s mOpen = true then (run k .all s.tail).key mClose PR.ret
    else if (peekL s).f0 = 1 then PR.ret (tm 2 (peekL s).f1 []) s.tail
    else if (peekL s).f0 = 2 then PR.ret ⟨1, noName, (peekL s).f2, []⟩ s.tail
    else some none
  | k + 1, .apps t, s => if beginsL s = true then (run k .part s).then_ fun u s => run k (.apps (tm 4 noName [t, u])) s else PR.ret t s
  | k + 1, .parts, s => (run k .part s).then_ fun t s => run k (.apps t) s
  | k + 1, .plain, s => (run k .parts s).then_ fun t s =>
    if isL s mSet = true then (run k .one s.tail).then_ fun u s => PR.ret (tm 11 noName [t, u]) s
    else match opWords.find? (isL s) with
      | some o => (run k .parts s.tail).then_ fun u s => PR.ret (tm 12 o [t, u]) s
      | none => PR.ret t s
  | k + 1, .one, s =>
    if isL s kFun = true then PR.name (boundL s.tail mArrow) fun n s => (run k .all s).then_ fun x s => PR.ret (tm 3 n [x]) s
    else if isL s kLet = true then PR.name (boundL s.tail mEq) fun n s => (run k .all s).key kIn fun x s => (run k .all s).then_ fun y s => PR.ret (tm 5 n [x, y]) s
    else if isL s kIf = true then (run k .all s.tail).key kThen fun c s => (run k .all s).key kElse fun x s => (run k .all s).then_ fun y s => PR.ret (tm 6 noName [c, x, y]) s
    else if isL s kWhile = true then (run k .all s.tail).key kDo fun c s => (run k .all s).then_ fun x s => PR.ret (tm 7 noName [c, x]) s
    else if isL s kRaise = true then (run k .one s.tail).then_ fun x s => PR.ret (tm 8 noName [x]) s
    else if isL s kTry = true then (run k .all s.tail).key kWith fun x s => PR.name (boundL s mArrow) fun n s => (run k .all s).then_ fun y s => PR.ret (tm 9 n [x, y]) s
    else run k .plain s
  | k + 1, .all, s => (run k .one s).then_ fun t s => if isL s mSeq = true then (run k .all s.tail).then_ fun u s => PR.ret (tm 13 noName [t, u]) s else PR.ret t s
theorem PR.then_mono {a a' : PR} {f f' : Tm → List TokT → PR} (h : ∀ r, a = some r → a' = some r) (hf : ∀ t s r, f t s = some r → f' t s = some r) : ∀ r, a.then_ f = some r → a'.then_ f' = some r := by
  intro r hr
  cases a with
  | none => cases hr
  | some x =>
    rw [h x rfl]
    cases x with
    | none => exact hr
    | some p => exact hf _ _ _ hr
theorem PR.name_mono {o : Option (ByteArray × List TokT)} {f f' : ByteArray → List TokT → PR} (hf : ∀ t s r, f t s = some r → f' t s = some r) : ∀ r, PR.name o f = some r → PR.name o f' = some r := by
  intro r hr
  cases o with
  | none => exact hr
  | some x => exact hf _ _ _ hr
theorem PR.ite_mono {c : Prop} [Decidable c] {a a' b b' : PR} (h : ∀ r, a = some r → a' = some r) (k : ∀ r, b = some r → b' = some r) : ∀ r, (if c then a else b) = some r → (if c then a' else b') = some r := by
  intro r hr
  split
  · rename_i hc; rw [if_pos hc] at hr; exact h r hr
  · rename_i hc; rw [if_neg hc] at hr; exact k r hr
theorem run_mono : ∀ k m s r, run k m s = some r → run (k + 1) m s = some r
  | 0, _, _, _, h => by cases h
  | k + 1, m, s, r, h => by
    have ih := run_mono k
    have same : ∀ (a : PR), ∀ r, a = some r → a = some r := fun _ _ h => h
    revert r
    cases m with
    | part =>
      show ∀ r, _ → _
      exact PR.ite_mono (PR.then_mono (ih _ _) fun _ _ => same _) (PR.ite_mono (PR.then_mono (ih _ _) fun _ _ => same _) (same _))
    | apps t => exact PR.ite_mono (PR.then_mono (ih _ _) fun _ _ => ih _ _) (same _)
    | parts => exact PR.then_mono (ih _ _) fun _ _ => ih _ _
    | plain =>
      refine PR.then_mono (ih _ _) fun t s => PR.ite_mono (PR.then_mono (ih _ _) fun _ _ => same _) ?_
      cases opWords.find? (isL s) with
      | none => exact same _
      | some o => exact PR.then_mono (ih _ _) fun _ _ => same _
    | one =>
      refine PR.ite_mono (PR.name_mono fun _ _ => PR.then_mono (ih _ _) fun _ _ => same _) (PR.ite_mono (PR.name_mono fun _ _ => PR.then_mono (ih _ _) fun _ _ => PR.ite_mono (PR.then_mono (ih _ _) fun _ _ => same _) (same _))
        (PR.ite_mono (PR.then_mono (ih _ _) fun _ _ => PR.ite_mono (PR.then_mono (ih _ _) fun _ _ => PR.ite_mono (PR.then_mono (ih _ _) fun _ _ => same _) (same _)) (same _))
        (PR.ite_mono (PR.then_mono (ih _ _) fun _ _ => PR.ite_mono (PR.then_mono (ih _ _) fun _ _ => same _) (same _))
        (PR.ite_mono (PR.then_mono (ih _ _) fun _ _ => same _)
        (PR.ite_mono (PR.then_mono (ih _ _) fun _ _ => PR.ite_mono (PR.name_mono fun _ _ => PR.then_mono (ih _ _) fun _ _ => same _) (same _)) (ih _ _))))))
    | all => exact PR.then_mono (ih _ _) fun _ _ => PR.ite_mono (PR.then_mono (ih _ _) fun _ _ => same _) (same _)
theorem run_more {k m s r} (h : run k m s = some r) : ∀ j, run (k + j) m s = some r
  | 0 => h
  | j + 1 => run_mono _ _ _ _ (run_more h j)
theorem run_le {k k' m s r} (h : run k m s = some r) (hk : k ≤ k') : run k' m s = some r := by
  have := run_more h (k' - k)
  rwa [Nat.add_sub_cancel' hk] at this
def Mode.rank : Mode → Nat
  | .part => 1
  | .apps _ => 2
  | .parts => 2
  | .plain => 3
  | .one => 4
  | .all => 5
def Went (d : Nat) (s : List TokT) (r : Option (Tm × List TokT)) : Prop := ∀ t s', r = some (t, s') → s' <:+ s ∧ s'.length + d ≤ s.length
def Ends (d : Nat) (s : List TokT) (a : PR) : Prop := ∃ r, a = some r ∧ Went d s r
theorem Ends.fail (d : Nat) (s : List TokT) : Ends d s (some none) := ⟨none, rfl, fun _ _ h => by cases h⟩
theorem Ends.ret {d : Nat} {s s' : List TokT} (t : Tm) (h : s' <:+ s) (hd : s'.length + d ≤ s.length) : Ends d s (PR.ret t s') :=
  ⟨_, rfl, fun _ _ e => by injection e with e; injection e with _ e; subst e; exact ⟨h, hd⟩⟩
theorem Ends.then_ {d d' : Nat} {s s0 : List TokT} {a : PR} {f : Tm → List TokT → PR} (h : Ends d s a) (hf : ∀ t s', s' <:+ s → s'.length + d ≤ s.length → Ends d' s0 (f t s')) : Ends d' s0 (a.then_ f) := by
  obtain ⟨r, rfl, hw⟩ := h
  cases r with
  | none => exact Ends.fail _ _
  | some p => exact hf p.1 p.2 (hw _ _ rfl).1 (hw _ _ rfl).2
theorem Ends.key {d d' : Nat} {s s0 : List TokT} {a : PR} {m : ByteArray} {f : Tm → List TokT → PR} (h : Ends d s a) (hf : ∀ t s', s' <:+ s → s'.length + (d + 1) ≤ s.length → Ends d' s0 (f t s')) : Ends d' s0 (a.key m f) :=
  h.then_ fun t s' h1 h2 => by
    split
    · rename_i hm
      obtain ⟨x, q, rfl⟩ := isL_ne hm
      exact hf t q (List.IsSuffix.trans (List.suffix_cons x q) h1) (by simp at h2; omega)
    · exact Ends.fail _ _
theorem Ends.name {d' : Nat} {s s0 : List TokT} {m : ByteArray} {f : ByteArray → List TokT → PR} (hf : ∀ n s', s' <:+ s → s'.length + 2 ≤ s.length → Ends d' s0 (f n s')) : Ends d' s0 (PR.name (boundL s m) f) := by
  unfold boundL
  split
  · rename_i h1
    obtain ⟨x, q, rfl⟩ := peek_ne (s := s) (by rw [h1]; decide)
    split
    · rename_i h2
      obtain ⟨y, q2, hq⟩ := isL_ne h2
      simp only [List.tail_cons] at hq
      subst hq
      exact hf _ q2 (List.IsSuffix.trans (List.suffix_cons y q2) (List.suffix_cons x _)) (by simp)
    · exact Ends.fail _ _
  · exact Ends.fail _ _
theorem Ends.ite {d : Nat} {s : List TokT} {c : Prop} [Decidable c] {a b : PR} (h : c → Ends d s a) (k : ¬ c → Ends d s b) : Ends d s (if c then a else b) := by
  split
  · exact h ‹_›
  · exact k ‹_›
theorem Ends.suffix {d : Nat} {s s0 : List TokT} {a : PR} {d' : Nat} (h : Ends d s a) (hs : s <:+ s0) (hd : s.length + d' ≤ s0.length + d) : Ends d' s0 a := by
  obtain ⟨r, rfl, hw⟩ := h
  refine ⟨r, rfl, fun t s' e => ?_⟩
  have := hw t s' e
  exact ⟨List.IsSuffix.trans this.1 hs, by omega⟩
def Mode.min : Mode → Nat
  | .apps _ => 0
  | _ => 1
theorem run_fin : ∀ k m s, m.rank + 8 * s.length ≤ k → Ends m.min s (run k m s)
  | 0, m, s, h => by cases m <;> simp [Mode.rank] at h
  | k + 1, m, s, h => by
    have ih := run_fin k
    have part_ : ∀ s', 1 + 8 * s'.length ≤ k → Ends 1 s' (run k .part s') := fun s' h => ih .part s' h
    have parts_ : ∀ s', 2 + 8 * s'.length ≤ k → Ends 1 s' (run k .parts s') := fun s' h => ih .parts s' h
    have plain_ : ∀ s', 3 + 8 * s'.length ≤ k → Ends 1 s' (run k .plain s') := fun s' h => ih .plain s' h
    have one_ : ∀ s', 4 + 8 * s'.length ≤ k → Ends 1 s' (run k .one s') := fun s' h => ih .one s' h
    have all_ : ∀ s', 5 + 8 * s'.length ≤ k → Ends 1 s' (run k .all s') := fun s' h => ih .all s' h
    have tl : ∀ (s : List TokT) m, isL s m = true → s.tail <:+ s ∧ s.tail.length + 1 = s.length := fun s m h => by
      obtain ⟨x, q, rfl⟩ := isL_ne h
      exact ⟨List.suffix_cons x q, by simp⟩
    have tp : ∀ (s : List TokT), (peekL s).f0 ≠ 0 → s.tail <:+ s ∧ s.tail.length + 1 = s.length := fun s h => by
      obtain ⟨x, q, rfl⟩ := peek_ne h
      exact ⟨List.suffix_cons x q, by simp⟩
    cases m with
    | part =>
      simp only [Mode.rank] at h
      refine Ends.ite (fun c => ?_) fun _ => Ends.ite (fun c => ?_) fun _ => Ends.ite (fun c => ?_) fun _ => Ends.ite (fun c => ?_) fun _ => Ends.fail _ _
      · obtain ⟨h1, h2⟩ := tl s _ c
        exact (part_ _ (by omega)).then_ fun t s' h3 h4 => Ends.ret _ (h3.trans h1) (by simp only [Mode.min]; omega)
      · obtain ⟨h1, h2⟩ := tl s _ c
        exact (all_ _ (by omega)).key fun t s' h3 h4 => Ends.ret _ (h3.trans h1) (by simp only [Mode.min]; omega)
      · obtain ⟨h1, h2⟩ := tp s (by rw [c]; decide)
        exact Ends.ret _ h1 (by simp only [Mode.min]; omega)
      · obtain ⟨h1, h2⟩ := tp s (by rw [c]; decide)
        exact Ends.ret _ h1 (by simp only [Mode.min]; omega)
    | apps t =>
      simp only [Mode.rank] at h
      refine Ends.ite (fun c => ?_) fun _ => Ends.ret _ (List.suffix_refl _) (Nat.le_refl _)
      exact (part_ s (by omega)).then_ fun u s' h3 h4 => Ends.suffix (ih (.apps _) s' (by simp only [Mode.rank]; omega)) h3 (by simp only [Mode.min]; omega)
    | parts =>
      simp only [Mode.rank] at h
      exact (part_ s (by omega)).then_ fun u s' h3 h4 => Ends.suffix (ih (.apps _) s' (by simp only [Mode.rank]; omega)) h3 (by simp only [Mode.min]; omega)
    | plain =>
      simp only [Mode.rank] at h
      refine (parts_ s (by omega)).then_ fun t s' h3 h4 => Ends.ite (fun c => ?_) fun _ => ?_
      · obtain ⟨h1, h2⟩ := tl s' _ c
        exact (one_ _ (by omega)).then_ fun u s2 h5 h6 => Ends.ret _ (h5.trans (h1.trans h3)) (by simp only [Mode.min]; omega)
      · cases hf : opWords.find? (isL s') with
        | none => exact Ends.ret _ h3 (by simp only [Mode.min]; omega)
        | some o =>
          obtain ⟨h1, h2⟩ := tl s' _ (List.find?_some hf)
          exact (parts_ _ (by omega)).then_ fun u s2 h5 h6 => Ends.ret _ (h5.trans (h1.trans h3)) (by simp only [Mode.min]; omega)
    | one =>
      simp only [Mode.rank] at h
      refine Ends.ite (fun c => ?_) fun _ => Ends.ite (fun c => ?_) fun _ => Ends.ite (fun c => ?_) fun _ => Ends.ite (fun c => ?_) fun _ => Ends.ite (fun c => ?_) fun _ => Ends.ite (fun c => ?_) fun _ => plain_ s (by omega)
      · obtain ⟨h1, h2⟩ := tl s _ c
        exact Ends.name fun n s' h3 h4 => (all_ s' (by omega)).then_ fun x s2 h5 h6 => Ends.ret _ (h5.trans (h3.trans h1)) (by simp only [Mode.min]; omega)
      · obtain ⟨h1, h2⟩ := tl s _ c
        exact Ends.name fun n s' h3 h4 => (all_ s' (by omega)).key fun x s2 h5 h6 => (all_ s2 (by omega)).then_ fun y s3 h7 h8 => Ends.ret _ (h7.trans (h5.trans (h3.trans h1))) (by simp only [Mode.min]; omega)
      · obtain ⟨h1, h2⟩ := tl s _ c
        exact (all_ _ (by omega)).key fun c' s' h3 h4 => (all_ s' (by omega)).key fun x s2 h5 h6 => (all_ s2 (by omega)).then_ fun y s3 h7 h8 => Ends.ret _ (h7.trans (h5.trans (h3.trans h1))) (by simp only [Mode.min]; omega)
      · obtain ⟨h1, h2⟩ := tl s _ c
        exact (all_ _ (by omega)).key fun c' s' h3 h4 => (all_ s' (by omega)).then_ fun x s2 h5 h6 => Ends.ret _ (h5.trans (h3.trans h1)) (by simp only [Mode.min]; omega)
      · obtain ⟨h1, h2⟩ := tl s _ c
        exact (one_ _ (by omega)).then_ fun c' s' h3 h4 => Ends.ret _ (h3.trans h1) (by simp only [Mode.min]; omega)
      · obtain ⟨h1, h2⟩ := tl s _ c
        exact (all_ _ (by omega)).key fun c' s' h3 h4 => Ends.name fun n s2 h5 h6 => (all_ s2 (by omega)).then_ fun y s3 h7 h8 => Ends.ret _ (h7.trans (h5.trans (h3.trans h1))) (by simp only [Mode.min]; omega)
    | all =>
      simp only [Mode.rank] at h
      refine (one_ s (by omega)).then_ fun t s' h3 h4 => Ends.ite (fun c => ?_) fun _ => Ends.ret _ h3 (by simp only [Mode.min]; omega)
      obtain ⟨h1, h2⟩ := tl s' _ c
      exact (all_ _ (by omega)).then_ fun u s2 h5 h6 => Ends.ret _ (h5.trans (h1.trans h3)) (by simp only [Mode.min]; omega)
def parseL (s : List TokT) : Option (Tm × List TokT) := (run (8 * s.length + 5) .all s).getD none
theorem parseL_run (s : List TokT) : run (8 * s.length + 5) .all s = some (parseL s) := by
  obtain ⟨r, h, _⟩ := run_fin (8 * s.length + 5) .all s (by simp only [Mode.rank]; omega)
  rw [parseL, h]; rfl
theorem parseL_of {k : Nat} {s : List TokT} {r : Option (Tm × List TokT)} (h : run k .all s = some r) : parseL s = r := by
  have h1 := parseL_run s
  have h2 := run_le h (Nat.le_max_left k (8 * s.length + 5))
  have h3 := run_le h1 (Nat.le_max_right k (8 * s.length + 5))
  rw [h2] at h3
  exact (Option.some.inj h3).symm
def nestStep (p : Int × Int) (t : TokT) : Int × Int :=
  if t.f0 ≠ 4 then p else
    let n := if t.f1.data.toList = [40] then p.1 + 1 else if t.f1.data.toList = [41] then p.1 - 1 else p.1
    (n, max p.2 n)
def nestL (l : List TokT) : Int := (l.foldl nestStep (0, 0)).2
def zTm : Tm := ⟨0, noName, 0, []⟩
def toksR (l : List TokT) : Tm × Int :=
  if l.all rightT = false then (zTm, 2)
  else if 200 < nestL l then (zTm, 1)
  else match parseL l with
    | none => (zTm, 2)
    | some (t, s) => if s ≠ [] then (zTm, 2) else if 200 < depthT t ∨ 10000 < sizeT t then (zTm, 1) else (t, 0)
end Go.Proofs.YtchekgnacodolaaGreatDoor.X
end

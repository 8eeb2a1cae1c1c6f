-- Joined by our own program (wip/tools/prune.py) out of the seat's texts, less what this claim doesn't name.
import Derived.Defers
import Derived.Recover
import Derived.Tactics2
import Derived.Laws.Pointers
import Derived.Test.YtchekgnacodolaaGreatDoorJ20
section
namespace Go.Proofs.YtchekgnacodolaaGreatDoor.X
open Go.RowKit Go.Proofs.YtchekgnacodolaaGreatDoorW.PrintWords Go.Proofs.YtchekgnacodolaaGreatDoorW.PrintLast Go.Proofs.YtchekgnacodolaaGreatDoorW.PrintMore
set_option linter.unusedSimpArgs false
set_option linter.unusedVariables false
theorem assert_fault (pv : Addr) (w : World) : (Instr.typeAssert (.iface 140 (.pointer (some pv))) 20 140 true).run Tryz.prog w = .ok (.tuple #[.pointer (some pv), .bool true]) w := by kernel_rfl
theorem assert_nil (w : World) : (Instr.typeAssert .nilIface 20 140 true).run Tryz.prog w = .ok (.tuple #[.pointer none, .bool false]) w := by kernel_rfl
set_option maxRecDepth 100000 in
set_option maxHeartbeats 1000000 in
theorem catch_fault (b2 b3 : Nat) (x0 x1 x2 x3 y : Value) (pv : Addr) (w : World) (h2 : Own w b2 #[x0, x1, x2, x3] 26) (h3 : Own w b3 #[y] 94) (hne : b2 ≠ b3) :
    CallsD Tryz.prog 85 #[.pointer (some ⟨b2, 0, none⟩), .pointer (some ⟨b3, 0, none⟩)] (.panicking ({ v := .iface 140 (.pointer (some pv)), recovered := false } :: [])) w fun e u' w' =>
      e = .returned (.tuple #[]) ∧ u' = .panicking ({ v := .iface 140 (.pointer (some pv)), recovered := true } :: []) ∧
      w' = ((((w.setCell ⟨b2, 0, none⟩ (.int .i64 0)).setCell ⟨b2, 1, none⟩ (.string ⟨#[]⟩)).setCell ⟨b2, 2, none⟩ (.int .i64 0)).setCell ⟨b2, 3, none⟩ (.slice none 0 0)).setCell ⟨b3, 0, none⟩ (.iface 140 (.pointer (some pv))) := by
  have d0 := h2.cell 0
  have d1 := h2.cell 1
  have d2 := h2.cell 2
  have d3 := h2.cell 3
  have dz := fun i => h2.fz i
  have H3 : Own ((((w.setCell ⟨b2, 0, none⟩ (.int .i64 0)).setCell ⟨b2, 1, none⟩ (.string ⟨#[]⟩)).setCell ⟨b2, 2, none⟩ (.int .i64 0)).setCell ⟨b2, 3, none⟩ (.slice none 0 0)) b3 #[y] 94 := four_far h3 (Ne.symm hne)
  have e0 := H3.cell 0
  have ez := H3.fz 0
  clear H3 h2 h3
  refine callsD_of_wpS Tryz.func85 rfl fun c₀ cs hu => ?_
  apply wpS_seq
  apply wpS_region
  simp [wpOpsS, go_sem, recoverD, hu, Tryz.ntmps85, Exit.thenS, assert_fault]
  apply wpS_seq
  apply wpS_region
  simp [wpOpsS, go_sem, Exit.thenS]
  refine wpS_cond (t := true) (by simp [Act.eval, Array.replicate]) ?_
  simp only [if_true]
  apply wpS_region
  simp [wpOpsS, go_sem, d0, d1, d2, d3, dz, e0, ez, bodyPostS, results, Tryz.results85]
set_option maxRecDepth 100000 in
set_option maxHeartbeats 1000000 in
theorem catch_idle (p2 p3 : Addr) (w : World) :
    CallsD Tryz.prog 85 #[.pointer (some p2), .pointer (some p3)] .returning w fun e u' w' => e = .returned (.tuple #[]) ∧ u' = .returning ∧ w' = w := by
  refine callsD_of_wpS Tryz.func85 rfl fun c₀ cs hu => ?_
  apply wpS_seq
  apply wpS_region
  simp [wpOpsS, go_sem, recoverD, hu, Tryz.ntmps85, Exit.thenS, assert_nil]
  apply wpS_seq
  apply wpS_region
  simp [wpOpsS, go_sem, Exit.thenS]
  refine wpS_cond (t := false) (by simp [Act.eval, Array.replicate]) ?_
  simp only [Bool.false_eq_true, if_false]
  refine wpS_of_wp (wp_skip ?_)
  cases c₀
  simp_all [bodyPostS, results, Tryz.results85]
set_option maxRecDepth 100000 in
set_option maxHeartbeats 400000 in
theorem failC0 (g : Nat) (n : Int) (te : TypeId) (ve : Value) (w : World) (c1 : w.cell? ⟨g, 1, none⟩ = some (.int .i64 n)) (err : w.cell? ⟨0, 0, none⟩ = some (.iface te ve)) :
    Calls Tryz.prog 87 #[.pointer (some ⟨g, 0, none⟩)] w fun e w' => Fails g (.iface te ve) w e w' := by
  have n0 := World.new_ne w _ c1
  have n1 := World.new_ne w _ err
  go_enter Tryz.func87, Tryz.ntmps87
  go_wp2_with fail
  go_still_tail 6, (by kernel_rfl)
  change wpList _ _ _ _ _ w.drew
  go_wp2_with fail
  refine ⟨rfl, ?_⟩
  exact ⟨Past.of_below (below_drew (below_alloc (Below.refl _ _) _)), _, _, rfl, blk_drew (blk_new _ _)⟩
def Read (E : Value) (w : World) (res : Option (Tm × List TokT)) (e : Ending) (w' : World) : Prop :=
  Below w.heap.size w w' ∧ match res with
  | some (t, []) => ∃ v, e = .returned (.tuple #[v, .nilIface]) ∧ TmV w.heap.size w' t v
  | _ => ∃ b n, e = .returned (.tuple #[.agg #[.int .i64 0, .string ⟨#[]⟩, .int .i64 0, .slice none 0 0], .iface 140 (.pointer (some ⟨b, 0, none⟩))]) ∧ w'.heap[b]? = some (.cells #[.int .i64 n, E] 188 (0, 0))
theorem Past.belowNew {g : Nat} {w w1 w' : World} (h : Past g w1 w') (hb : Below w.heap.size w w1) (hg : w.heap.size ≤ g) : Below w.heap.size w w' :=
  ⟨h.os.trans hb.os, h.tape.trans hb.tape, h.output.trans hb.output, Nat.le_trans hb.size h.size, fun k hk => (h.block k (Nat.lt_of_lt_of_le hk hb.size) (by omega)).trans (hb.block k hk)⟩
theorem results_read {tmps : Array Value} {w : World} {N M : Nat} {a b c d e : Value} (hp : tmps.getD 2 undef = .pointer (some ⟨N, 0, none⟩)) (hq : tmps.getD 3 undef = .pointer (some ⟨M, 0, none⟩)) (h2 : Own w N #[a, b, c, d] 26) (h3 : Own w M #[e] 94) :
    (results Tryz.f50 tmps).run Tryz.prog w = .ok (.tuple #[.agg #[a, b, c, d], e]) w := by
  have hp' : tmps[2]?.getD undef = .pointer (some ⟨N, 0, none⟩) := by simpa using hp
  have hq' : tmps[3]?.getD undef = .pointer (some ⟨M, 0, none⟩) := by simpa using hq
  have e0 : w.cell? ⟨M, 0, none⟩ = some e := h3.cell 0
  have d0 : w.cell? ⟨N, 0, none⟩ = some a := h2.cell 0
  have d1 : w.cell? ⟨N, 1, none⟩ = some b := h2.cell 1
  have d2 : w.cell? ⟨N, 2, none⟩ = some c := h2.cell 2
  have d3 : w.cell? ⟨N, 3, none⟩ = some d := h2.cell 3
  simp [results, Tryz.results50, hp', hq', go_sem, e0, d0, d1, d2, d3]
set_option maxRecDepth 100000 in
set_option maxHeartbeats 4000000 in
theorem readC (A : Option Addr) (c : Nat) (l : List TokT) (te : TypeId) (ve : Value) (w : World) (hr : Reads w A c l) (he : w.cell? ⟨0, 0, none⟩ = some (.iface te ve)) :
    Calls Tryz.prog 50 #[.slice A l.length c] w fun e w' => Read (.iface te ve) w (parseL l) e w' := by
  have hmf : ∀ (fn : Fn) (first cap : Array Value) (w : World), (Instr.makeFunc fn first cap).run Tryz.prog w = .ok (.func fn first cap) w := fun _ _ _ _ => rfl
  have herr := cell_lt he
  have hW : Below w.heap.size w (((w.alloc (.cells zeroV 26)).alloc (.cells #[.nilIface] 94)).alloc (.cells #[.slice A l.length c, .int .i64 0] 144)) :=
    ((below_alloc (below_alloc (below_alloc (Below.refl _ _) _) _) _))
  have hR : Rd (w.heap.size + 1 + 1) A c (.iface te ve) [] l (((w.alloc (.cells zeroV 26)).alloc (.cells #[.nilIface] 94)).alloc (.cells #[.slice A l.length c, .int .i64 0] 144)) := by
    refine ⟨?_, hr.below hW, fun h0 ad hA => ?_, (hW.cell herr).trans he, by simp only at herr; omega, te, ve, rfl⟩
    · have := blk_new ((w.alloc (.cells zeroV 26)).alloc (.cells #[.nilIface] 94)) (.cells #[.slice A l.length c, .int .i64 0] 144)
      simpa using this
    · obtain ⟨ad', hA', hc⟩ := hr.1.2.2 h0
      rw [hA] at hA'
      injection hA' with e
      subst e
      obtain ⟨cs, _, hk, hcell⟩ := hc 0 (l[0]'h0) (List.getElem?_eq_getElem h0)
      have := cell_lt (hcell 0 _ (by rw [k106_open hk]; rfl))
      rw [add_block] at this
      omega
  have B2 : Own (((w.alloc (.cells zeroV 26)).alloc (.cells #[.nilIface] 94)).alloc (.cells #[.slice A l.length c, .int .i64 0] 144)) w.heap.size zeroV 26 := ((Own.new w zeroV 26).alloc _).alloc _
  have B3 : Own (((w.alloc (.cells zeroV 26)).alloc (.cells #[.nilIface] 94)).alloc (.cells #[.slice A l.length c, .int .i64 0] 144)) (w.heap.size + 1) #[.nilIface] 94 := by
    have := (Own.new (w.alloc (.cells zeroV 26)) #[.nilIface] 94).alloc (.cells #[.slice A l.length c, .int .i64 0] 144)
    simpa using this
  have KA := allC hR
  have HW := Lib.hid hW
  clear hR hW he hr
  rcases hres : parseL l with _ | ⟨t, s'⟩
  · rw [hres] at KA
    have KA := Lib.hid KA
    clear hres
    go_enter_defers Tryz.func50, Tryz.ntmps50
    go_wp2_with fail
    refine KA.out.mono ?_
    rintro e w1 ⟨hp, b, n, rfl, hb⟩
    have B2 := B2.past hp (by omega)
    have B3 := B3.past hp (by omega)
    have HB := Lib.hid hb
    have HP := Lib.hid hp
    clear hb hp
    go_wp2_with fail
    refine leaves_cons (f := 85) (args := #[.pointer (some ⟨w.heap.size, 0, none⟩), .pointer (some ⟨w.heap.size + 1, 0, none⟩)]) (by simp) (by simp [go_sem]) ?_
    refine (catch_fault w.heap.size (w.heap.size + 1) _ _ _ _ _ ⟨b, 0, none⟩ _ B2 B3 (by omega)).mono ?_
    rintro e u' w'' ⟨rfl, rfl, rfl⟩
    have C2 : Own _ w.heap.size _ 26 := blk_far (p := ⟨w.heap.size + 1, 0, none⟩) (Own.four B2 (a := .int .i64 0) (b := .string ⟨#[]⟩) (c := .int .i64 0) (d := .slice none 0 0)) (by show w.heap.size ≠ w.heap.size + 1; omega) (.iface 140 (.pointer (some ⟨b, 0, none⟩)))
    have C3 : Own _ (w.heap.size + 1) _ 94 := blk_set (four_far (N := w.heap.size) (a := .int .i64 0) (b := .string ⟨#[]⟩) (c := .int .i64 0) (d := .slice none 0 0) B3 (by omega)) 0 (.iface 140 (.pointer (some ⟨b, 0, none⟩)))
    refine ⟨_, results_read rfl rfl C2 C3, ?_, b, n, rfl, ?_⟩
    · exact ((four_set (w3size := 0) (HP.out.belowNew HW.out (by omega))).setCell (by show w.heap.size ≤ w.heap.size + 1; omega) _)
    · exact blk_far (p := ⟨w.heap.size + 1, 0, none⟩) (four_far HB.out (fun e => by subst e; have := HB.out; rw [show w1.heap[w.heap.size]? = _ from B2] at this; injection this with this; injection this with _ this; exact absurd this (by decide))) (fun e => by have e' : b = w.heap.size + 1 := e; subst e'; have := HB.out; rw [show w1.heap[w.heap.size + 1]? = _ from B3] at this; injection this with this; injection this with _ this; exact absurd this (by decide)) _
  · rw [hres] at KA
    clear hres
    cases s' with
    | nil =>
      have KA := Lib.hid KA
      go_enter_defers Tryz.func50, Tryz.ntmps50
      go_wp2_with fail
      refine KA.out.mono ?_
      rintro e w1 ⟨hp, v, p', rfl, hv, hpp, hrd⟩
      obtain ⟨A3, c3, rfl, hl, hC⟩ := hv
      have hv : TmV (w.heap.size + 1 + 1 + 1) w1 t (.agg #[.int .i64 t.f0, .string t.f1, .int .i64 t.f2, .slice A3 t.f3.length c3]) := TmV.mono ⟨A3, c3, rfl, hl, hC⟩ (by simp)
      have B2 := B2.past hp (by omega)
      have B3 := B3.past hp (by omega)
      have HP := Lib.hid hp
      have hpl : p'.length = l.length := by have := congrArg List.length hpp; simpa using this
      have hd : decide (p'.length < l.length) = false := by rw [decide_eq_false_iff_not]; omega
      have d0 := B2.cell 0
      have d1 := B2.cell 1
      have d2 := B2.cell 2
      have d3 := B2.cell 3
      have dz := fun i => B2.fz i
      have C2 := Own.four B2 (a := .int .i64 t.f0) (b := .string t.f1) (c := .int .i64 t.f2) (d := .slice A3 t.f3.length c3)
      have C3 : Own _ (w.heap.size + 1) #[.nilIface] 94 := four_far (N := w.heap.size) (a := .int .i64 t.f0) (b := .string t.f1) (c := .int .i64 t.f2) (d := .slice A3 t.f3.length c3) B3 (by omega)
      have G3 : Own _ (w.heap.size + 1 + 1) #[.slice A (p' ++ []).length c, .int .i64 (p'.length : Int)] 144 := four_far (N := w.heap.size) (a := .int .i64 t.f0) (b := .string t.f1) (c := .int .i64 t.f2) (d := .slice A3 t.f3.length c3) hrd.blk (by omega)
      have g1 := G3.cell 1
      have f0 := C2.cell 0
      have f1 := C2.cell 1
      have f2 := C2.cell 2
      have f3 := C2.cell 3
      have fz := fun i => C2.fz i
      have D2 := Own.four C2 (a := .int .i64 t.f0) (b := .string t.f1) (c := .int .i64 t.f2) (d := .slice A3 t.f3.length c3)
      have D3 : Own _ (w.heap.size + 1) #[.nilIface] 94 := four_far (N := w.heap.size) (a := .int .i64 t.f0) (b := .string t.f1) (c := .int .i64 t.f2) (d := .slice A3 t.f3.length c3) C3 (by omega)
      have k0 := D3.cell 0
      have kz := D3.fz 0
      clear hp hpp hl hC hpl
      go_wp2_with fail
      refine leaves_cons (f := 85) (args := #[.pointer (some ⟨w.heap.size, 0, none⟩), .pointer (some ⟨w.heap.size + 1, 0, none⟩)]) (by simp) (by simp [go_sem]) ?_
      refine (catch_idle ⟨w.heap.size, 0, none⟩ ⟨w.heap.size + 1, 0, none⟩ _).mono ?_
      rintro e u' w'' ⟨rfl, rfl, rfl⟩
      simp only [Leaves, settle]
      refine ⟨_, results_read rfl rfl (blk_far D2 (p := ⟨w.heap.size + 1, 0, none⟩) (by show w.heap.size ≠ w.heap.size + 1; omega) _) (blk_set D3 0 .nilIface), ?_, _, rfl, ?_⟩
      · exact ((four_set (w3size := 0) (four_set (w3size := 0) (HP.out.belowNew HW.out (by omega)))).setCell (by show w.heap.size ≤ w.heap.size + 1; omega) _)
      · exact (hv.same (((four_same (four_same (Same.refl _ _) (by omega)) (by omega))).set (by show w.heap.size + 1 < w.heap.size + 1 + 1 + 1; omega) _)).mono (by omega)
    | cons x s' =>
      have KA := Lib.hid KA
      go_enter_defers Tryz.func50, Tryz.ntmps50
      go_wp2_with fail
      refine KA.out.mono ?_
      rintro e w1 ⟨hp, v, p', rfl, hv, hpp, hrd⟩
      obtain ⟨A3, c3, rfl, hl, hC⟩ := hv
      have B2 := B2.past hp (by omega)
      have B3 := B3.past hp (by omega)
      have hpl : p'.length < l.length := by have := congrArg List.length hpp; simp at this; omega
      have hd : decide (p'.length < l.length) = true := by rw [decide_eq_true_eq]; exact hpl
      have d0 := B2.cell 0
      have d1 := B2.cell 1
      have d2 := B2.cell 2
      have d3 := B2.cell 3
      have dz := fun i => B2.fz i
      have C2 := Own.four B2 (a := .int .i64 t.f0) (b := .string t.f1) (c := .int .i64 t.f2) (d := .slice A3 t.f3.length c3)
      have C3 : Own _ (w.heap.size + 1) #[.nilIface] 94 := four_far (N := w.heap.size) (a := .int .i64 t.f0) (b := .string t.f1) (c := .int .i64 t.f2) (d := .slice A3 t.f3.length c3) B3 (by omega)
      have G3 : Own _ (w.heap.size + 1 + 1) #[.slice A (p' ++ x :: s').length c, .int .i64 (p'.length : Int)] 144 := four_far (N := w.heap.size) (a := .int .i64 t.f0) (b := .string t.f1) (c := .int .i64 t.f2) (d := .slice A3 t.f3.length c3) hrd.blk (by omega)
      have g1 := G3.cell 1
      have b5 : Below w.heap.size w ((((w1.setCell ⟨w.heap.size, 0, none⟩ (.int .i64 t.f0)).setCell ⟨w.heap.size, 1, none⟩ (.string t.f1)).setCell ⟨w.heap.size, 2, none⟩ (.int .i64 t.f2)).setCell ⟨w.heap.size, 3, none⟩ (.slice A3 t.f3.length c3)) := four_set (w3size := 0) (hp.belowNew HW.out (by omega))
      have er := hrd.err
      have er4 := (Below.cell (w := w1) (B := w.heap.size) (p := ⟨0, 0, none⟩) (four_set (w3size := 0) (a := .int .i64 t.f0) (b := .string t.f1) (c := .int .i64 t.f2) (d := .slice A3 t.f3.length c3) (Below.refl _ _)) herr).trans er
      have KF := Lib.hid (failC0 (w.heap.size + 1 + 1) (p'.length : Int) te ve _ g1 er4)
      have HB5 := Lib.hid b5
      clear hp hpp hl hC hpl er er4 b5 hrd
      go_wp2_with fail
      refine KF.out.mono ?_
      rintro e w5 ⟨hp, b, n, rfl, hb⟩
      have F2 := C2.past hp (by omega)
      have F3 := C3.past hp (by omega)
      have HB := Lib.hid hb
      have HP := Lib.hid hp
      have b5 := HB5.out
      clear hb hp
      go_wp2_with fail
      refine leaves_cons (f := 85) (args := #[.pointer (some ⟨w.heap.size, 0, none⟩), .pointer (some ⟨w.heap.size + 1, 0, none⟩)]) (by simp) (by simp [go_sem]) ?_
      refine (catch_fault w.heap.size (w.heap.size + 1) _ _ _ _ _ ⟨b, 0, none⟩ _ F2 F3 (by omega)).mono ?_
      rintro e u' w'' ⟨rfl, rfl, rfl⟩
      have C2 : Own _ w.heap.size _ 26 := blk_far (p := ⟨w.heap.size + 1, 0, none⟩) (Own.four F2 (a := .int .i64 0) (b := .string ⟨#[]⟩) (c := .int .i64 0) (d := .slice none 0 0)) (by show w.heap.size ≠ w.heap.size + 1; omega) (.iface 140 (.pointer (some ⟨b, 0, none⟩)))
      have C3 : Own _ (w.heap.size + 1) _ 94 := blk_set (four_far (N := w.heap.size) (a := .int .i64 0) (b := .string ⟨#[]⟩) (c := .int .i64 0) (d := .slice none 0 0) F3 (by omega)) 0 (.iface 140 (.pointer (some ⟨b, 0, none⟩)))
      refine ⟨_, results_read rfl rfl C2 C3, ?_, b, n, rfl, ?_⟩
      · exact ((four_set (w3size := 0) (HP.out.belowNew b5 (by omega))).setCell (by show w.heap.size ≤ w.heap.size + 1; omega) _)
      · exact blk_far (p := ⟨w.heap.size + 1, 0, none⟩) (four_far HB.out (fun e => by subst e; have := HB.out; rw [show w5.heap[w.heap.size]? = _ from F2] at this; injection this with this; injection this with _ this; exact absurd this (by decide))) (fun e => by have e' : b = w.heap.size + 1 := e; subst e'; have := HB.out; rw [show w5.heap[w.heap.size + 1]? = _ from F3] at this; injection this with this; injection this with _ this; exact absurd this (by decide)) _
end Go.Proofs.YtchekgnacodolaaGreatDoor.X
end

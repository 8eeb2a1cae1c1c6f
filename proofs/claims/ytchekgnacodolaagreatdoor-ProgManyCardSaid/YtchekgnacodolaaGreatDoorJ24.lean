-- Joined by our own program (wip/tools/prune.py) out of the seat's texts, less what this claim doesn't name.
import Derived.Test.YtchekgnacodolaaGreatDoorJ13
import Derived.Test.YtchekgnacodolaaGreatDoorJ16
import Derived.Test.YtchekgnacodolaaGreatDoorJ22
import Derived.Test.YtchekgnacodolaaGreatDoorJ23
section
namespace Go.Proofs.YtchekgnacodolaaGreatDoor.X
open Go.RowKit Go.Proofs.YtchekgnacodolaaGreatDoorW.PrintWords Go.Proofs.YtchekgnacodolaaGreatDoorW.PrintLast Go.Proofs.YtchekgnacodolaaGreatDoorW.PrintMore
set_option linter.unusedSimpArgs false
set_option linter.unusedVariables false
theorem Own.keep {b : Nat} {w w1 : World} {cs : Array Value} {T : TypeId} (h : Own w b cs T) (hb : Below w.heap.size w w1) : Own w1 b cs T := blk_below h hb
theorem results_toks {fn : Func} (h : fn.results = #[.cell 2 26, .tmp 3]) {tmps : Array Value} {w : World} {N : Nat} {a b c d : Value} {r : Value} (hp : tmps.getD 2 undef = .pointer (some ⟨N, 0, none⟩)) (hq : tmps.getD 3 undef = r) (h2 : Own w N #[a, b, c, d] 26) :
    (results fn tmps).run Tryz.prog w = .ok (.tuple #[.agg #[a, b, c, d], r]) w := by
  have hp' : tmps[2]?.getD undef = .pointer (some ⟨N, 0, none⟩) := by simpa using hp
  have hq' : tmps[3]?.getD undef = r := by simpa using hq
  have d0 : w.cell? ⟨N, 0, none⟩ = some a := h2.cell 0
  have d1 : w.cell? ⟨N, 1, none⟩ = some b := h2.cell 1
  have d2 : w.cell? ⟨N, 2, none⟩ = some c := h2.cell 2
  have d3 : w.cell? ⟨N, 3, none⟩ = some d := h2.cell 3
  simp [results, h, hp', hq', go_sem, d0, d1, d2, d3]
theorem ret_toks {fn : Func} {N : Nat} {tmps : Array Value} {w : World} {a b c d r : Value} {R : Ending → World → Prop} (h : fn.results = #[.cell 2 26, .tmp 3]) (hp : tmps.getD 2 undef = .pointer (some ⟨N, 0, none⟩)) (hq : tmps.getD 3 undef = r) (h2 : Own w N #[a, b, c, d] 26) (hR : R (.returned (.tuple #[.agg #[a, b, c, d], r])) w) :
    bodyPost Tryz.prog fn R Exit.ret { tmps := tmps, defers := [] } w := bodyPost_ret (results_toks h hp hq h2) rfl hR
def Told (w : World) (r : Tm × Int) (e : Ending) (w' : World) : Prop := ∃ v, e = .returned (.tuple #[v, .int .i64 r.2]) ∧ TmV w.heap.size w' r.1 v ∧ Below w.heap.size w w'
theorem told_zero {w w1 : World} (n : Int) (hb : Below w.heap.size w w1) : Told w (zTm, n) (.returned (.tuple #[.agg #[.int .i64 0, .string ⟨#[]⟩, .int .i64 0, .slice none 0 0], .int .i64 n])) w1 :=
  ⟨_, rfl, TmV.leaf _ _ _ _ _, hb⟩
set_option maxRecDepth 100000 in
set_option maxHeartbeats 4000000 in
theorem toksC (l : List TokT) (A : Option Addr) (c : Nat) (hl : l.length ≤ 1099511627776) (hs : ∀ t ∈ l, t.f1.size ≤ 281474976710656) (w : World) (hG : GL w) (hr : Reads w A c l) :
    Calls Tryz.prog 19 #[.slice A l.length c] w fun e w' => Told w (toksR l) e w' := by
  have hW := below_alloc (Below.refl w.heap.size w) (.cells zeroV 26)
  have hG := hG.below hW
  have hr := hr.below hW
  have K1 := Lib.hid (rightC l A c hs _ hG hr)
  have B2 := Own.new w zeroV 26
  have HW := Lib.hid hW
  clear hW
  cases h1 : l.all rightT with
  | false =>
    have ht : toksR l = (zTm, 2) := by unfold toksR; rw [if_pos h1]
    have HT := Lib.hid ht
    rw [h1] at K1
    clear hG hr h1 ht
    go_enter Tryz.func19, Tryz.ntmps19
    go_wp2_with fail
    refine K1.out.mono ?_
    rintro e w1 ⟨rfl, hb⟩
    have B2 := B2.keep hb
    have HB := Lib.hid (HW.out.trans (hb.mono (by simp)))
    have d0 := B2.cell 0
    have d1 := B2.cell 1
    have d2 := B2.cell 2
    have d3 := B2.cell 3
    have dz := fun i => B2.fz i
    clear hb
    go_wp2_with fail
    refine ret_toks rfl rfl rfl (Own.four B2) ?_
    rw [HT.out]
    exact told_zero _ (four_set (w3size := 0) HB.out)
  | true =>
    rw [h1] at K1
    by_cases h2 : 200 < nestL l
    · have hd : decide (200 < nestL l) = true := by simpa using h2
      have HT := Lib.hid (show toksR l = (zTm, 1) by unfold toksR; rw [if_neg (by rw [h1]; decide), if_pos h2])
      have HG := Lib.hid hG
      have HR := Lib.hid hr
      clear hG hr h1 h2
      go_enter Tryz.func19, Tryz.ntmps19
      go_wp2_with fail
      refine K1.out.mono ?_
      rintro e w1 ⟨rfl, hb⟩
      have B2 := B2.keep hb
      have hr := HR.out.below hb
      have K2 := Lib.hid (parse_nested.calls (l.length + 1) A c l (nestL l) w1 hr.1 hr.2 (nested_eq _ l hl (by omega)))
      have HB := Lib.hid (HW.out.trans (hb.mono (by simp)))
      clear hb hr
      go_wp2_with fail
      refine K2.out.mono ?_
      rintro e w2 ⟨rfl, hb⟩
      have B2 := B2.keep hb
      have HB := Lib.hid (HB.out.trans (hb.mono HB.out.size))
      have d0 := B2.cell 0
      have d1 := B2.cell 1
      have d2 := B2.cell 2
      have d3 := B2.cell 3
      have dz := fun i => B2.fz i
      clear hb
      go_wp2_with fail
      refine ret_toks rfl rfl rfl (Own.four B2) ?_
      rw [HT.out]
      exact told_zero _ (four_set (w3size := 0) HB.out)
    · have hd : decide (200 < nestL l) = false := by simpa using h2
      obtain ⟨Ea, hE⟩ := hG.gram
      have hne : (toksR l) = match parseL l with | none => (zTm, 2) | some (t, s) => if s ≠ [] then (zTm, 2) else if 200 < depthT t ∨ 10000 < sizeT t then (zTm, 1) else (t, 0) := by
        unfold toksR; rw [if_neg (by rw [h1]; decide), if_neg h2]; rcases parseL l with _ | ⟨t, s⟩ <;> rfl
      have HG := Lib.hid hG
      have HR := Lib.hid hr
      rcases hres : parseL l with _ | ⟨t, _ | ⟨x, s'⟩⟩
      all_goals rw [hres] at hne
      · skip
        have HNE := Lib.hid hne
        have HRES := Lib.hid hres
        have HE := Lib.hid hE
        clear hE hne hG hr h1 h2 hres
        go_enter Tryz.func19, Tryz.ntmps19
        go_wp2_with fail
        refine K1.out.mono ?_
        rintro e w1 ⟨rfl, hb⟩
        have B2 := B2.keep hb
        have hr := HR.out.below hb
        have hG := HG.out.below hb
        have HE := pw_cell_below hb HE.out
        have K2 := Lib.hid (parse_nested.calls (l.length + 1) A c l (nestL l) w1 hr.1 hr.2 (nested_eq _ l hl (by omega)))
        have HB := Lib.hid (HW.out.trans (hb.mono (by simp)))
        have HG := Lib.hid hG
        have HR := Lib.hid hr
        have HE := Lib.hid HE
        clear hb hr hG
        go_wp2_with fail
        refine K2.out.mono ?_
        rintro e w2 ⟨rfl, hb⟩
        have B2 := B2.keep hb
        have hr := HR.out.below hb
        have HE := pw_cell_below hb HE.out
        have HG := Lib.hid (HG.out.below hb)
        have HB := Lib.hid (HB.out.trans (hb.mono HB.out.size))
        have KR := readC A c l _ _ w2 hr HE
        rw [HRES.out] at KR
        have KR := Lib.hid KR
        have HE := Lib.hid HE
        clear hb hr
        go_wp2_with fail
        refine KR.out.mono ?_
        rintro e w3 ⟨hb, b, n, rfl, hf⟩
        have B2 := (B2.keep hb).alloc (.cells zeroV 26)
        have hA := below_alloc (Below.refl w3.heap.size w3) (.cells zeroV 26)
        have HB := Lib.hid (HB.out.trans ((hb.trans (hA.mono hb.size)).mono HB.out.size))
        have KN := Lib.hid (numberC b n _ ((HG.out.below hb).below hA) _ (pw_cell_below hA (pw_cell_below hb HE.out)) (Own.alloc hf (.cells zeroV 26)))
        clear hb hf hA
        go_wp2_with fail
        refine KN.out.mono ?_
        rintro e w4 ⟨rfl, hb⟩
        have B2 := B2.keep hb
        have HB := Lib.hid (HB.out.trans (hb.mono HB.out.size))
        have d0 := B2.cell 0
        have d1 := B2.cell 1
        have d2 := B2.cell 2
        have d3 := B2.cell 3
        have dz := fun i => B2.fz i
        clear hb
        go_wp2_with fail
        refine ret_toks rfl rfl rfl (Own.four B2) ?_
        rw [HNE.out]
        exact told_zero _ (four_set (w3size := 0) HB.out)
      · have HSZ := Lib.hid (show sizeT t ≤ 9223372036854775807 from Nat.le_trans (parse_size h1 hres) (by omega))
        have hne : toksR l = if 200 < depthT t ∨ 10000 < sizeT t then (zTm, 1) else (t, 0) := hne.trans (if_neg fun h => h rfl)
        have HNE := Lib.hid hne
        have HRES := Lib.hid hres
        have HE := Lib.hid hE
        clear hE hne hG hr h1 h2 hres
        go_enter Tryz.func19, Tryz.ntmps19
        go_wp2_with fail
        refine K1.out.mono ?_
        rintro e w1 ⟨rfl, hb⟩
        have B2 := B2.keep hb
        have hr := HR.out.below hb
        have hG := HG.out.below hb
        have HE := pw_cell_below hb HE.out
        have K2 := Lib.hid (parse_nested.calls (l.length + 1) A c l (nestL l) w1 hr.1 hr.2 (nested_eq _ l hl (by omega)))
        have HB := Lib.hid (HW.out.trans (hb.mono (by simp)))
        have HG := Lib.hid hG
        have HR := Lib.hid hr
        have HE := Lib.hid HE
        clear hb hr hG
        go_wp2_with fail
        refine K2.out.mono ?_
        rintro e w2 ⟨rfl, hb⟩
        have B2 := B2.keep hb
        have hr := HR.out.below hb
        have HE := pw_cell_below hb HE.out
        have HG := Lib.hid (HG.out.below hb)
        have HB := Lib.hid (HB.out.trans (hb.mono HB.out.size))
        have KR := readC A c l _ _ w2 hr HE
        rw [HRES.out] at KR
        have KR := Lib.hid KR
        have HE := Lib.hid HE
        clear hb hr
        go_wp2_with fail
        refine KR.out.mono ?_
        rintro e w3 ⟨hb, v, rfl, hv⟩
        obtain ⟨A3, c3, rfl, hlc, hC⟩ := hv
        have hv : TmV w2.heap.size w3 t (.agg #[.int .i64 t.f0, .string t.f1, .int .i64 t.f2, .slice A3 t.f3.length c3]) := ⟨A3, c3, rfl, hlc, hC⟩
        have hv := hv.same ((Same.refl _ _).alloc (.cells #[.int .i64 t.f0, .string t.f1, .int .i64 t.f2, .slice A3 t.f3.length c3] 26))
        have hlt2 : w.heap.size < w2.heap.size := B2.lt
        have B2 := (B2.keep hb).alloc (.cells #[.int .i64 t.f0, .string t.f1, .int .i64 t.f2, .slice A3 t.f3.length c3] 26)
        have B4 := Own.new w3 #[.int .i64 t.f0, .string t.f1, .int .i64 t.f2, .slice A3 t.f3.length c3] 26
        have hA := below_alloc (Below.refl w3.heap.size w3) (.cells #[.int .i64 t.f0, .string t.f1, .int .i64 t.f2, .slice A3 t.f3.length c3] 26)
        have H2 := Lib.hid hlt2
        have HB := Lib.hid (HB.out.trans ((hb.trans (hA.mono hb.size)).mono HB.out.size))
        have KD := Lib.hid (term_Depth.calls (2 * sizeT t) t.f0 t.f1 t.f2 A3 c3 t.f3 (depthT t) _ (hC _ ((Same.refl _ _).alloc (.cells #[.int .i64 t.f0, .string t.f1, .int .i64 t.f2, .slice A3 t.f3.length c3] 26))) hlc (depth_eq t HSZ.out _ (Nat.le_refl _)))
        have HC := Lib.hid hC
        have HV := Lib.hid hv
        have q0 := B4.cell 0
        have q1 := B4.cell 1
        have q2 := B4.cell 2
        have q3 := B4.cell 3
        have qz := fun i => B4.fz i
        clear hb hv hA hC
        by_cases hdp : 200 < depthT t
        · have hdd : decide (200 < (depthT t : Int)) = true := by rw [decide_eq_true_eq]; omega
          have HT := Lib.hid (show (if 200 < depthT t ∨ 10000 < sizeT t then (zTm, (1 : Int)) else (t, 0)) = (zTm, 1) from if_pos (.inl hdp))
          clear hdp
          go_wp2_with fail
          refine KD.out.mono ?_
          rintro e w4 ⟨rfl, hb⟩
          have B2 := B2.keep hb
          have B4 := B4.keep hb
          have hv := HV.out.same (Same.of_below hb)
          have HB := Lib.hid (HB.out.trans (hb.mono HB.out.size))
          have h4 : w3.heap.size < w4.heap.size := B4.lt
          have d0 := B2.cell 0
          have d1 := B2.cell 1
          have d2 := B2.cell 2
          have d3 := B2.cell 3
          have dz := fun i => B2.fz i
          clear hb hv
          go_wp2_with fail
          refine ret_toks rfl rfl rfl (Own.four B2) ?_
          rw [HNE.out, HT.out]
          exact told_zero _ (four_set (w3size := 0) HB.out)
        · have hdd : decide (200 < (depthT t : Int)) = false := by rw [decide_eq_false_iff_not]; omega
          by_cases hsz : 10000 < sizeT t
          · have hss : decide (10000 < (sizeT t : Int)) = true := by rw [decide_eq_true_eq]; omega
            have HT := Lib.hid (show (if 200 < depthT t ∨ 10000 < sizeT t then (zTm, (1 : Int)) else (t, 0)) = (zTm, 1) from if_pos (.inr hsz))
            clear hdp hsz
            go_wp2_with fail
            refine KD.out.mono ?_
            rintro e w4 ⟨rfl, hb⟩
            have B2 := B2.keep hb
            have B4 := B4.keep hb
            have hv := HV.out.same (Same.of_below hb)
            have HB := Lib.hid (HB.out.trans (hb.mono HB.out.size))
            have h4 : w3.heap.size < w4.heap.size := B4.lt
            have q0 := B4.cell 0
            have q1 := B4.cell 1
            have q2 := B4.cell 2
            have q3 := B4.cell 3
            have qz := fun i => B4.fz i
            obtain ⟨A4, c4, e4, hlc4, hC4⟩ := HV.out.same (Same.of_below hb)
            simp only [Value.agg.injEq, Array.mk.injEq, List.cons.injEq, Value.slice.injEq, true_and, and_true] at e4
            obtain ⟨rfl, rfl⟩ := e4
            have KS := Lib.hid (term_Size.calls (2 * sizeT t) t.f0 t.f1 t.f2 A3 c3 t.f3 (sizeT t) _ (hC4 _ (Same.refl _ _)) hlc4 (size_eq t HSZ.out _ (Nat.le_refl _)))
            clear hC4 hlc4
            clear hb hv
            go_wp2_with fail
            refine KS.out.mono ?_
            rintro e w5 ⟨rfl, hb⟩
            have B2 := B2.keep hb
            have B4 := B4.keep hb
            have HB := Lib.hid (HB.out.trans (hb.mono HB.out.size))
            have d0 := B2.cell 0
            have d1 := B2.cell 1
            have d2 := B2.cell 2
            have d3 := B2.cell 3
            have dz := fun i => B2.fz i
            clear hb
            go_wp2_with fail
            refine ret_toks rfl rfl rfl (Own.four B2) ?_
            rw [HNE.out, HT.out]
            exact told_zero _ (four_set (w3size := 0) HB.out)
          · have hss : decide (10000 < (sizeT t : Int)) = false := by rw [decide_eq_false_iff_not]; omega
            have HT := Lib.hid (show (if 200 < depthT t ∨ 10000 < sizeT t then (zTm, (1 : Int)) else (t, 0)) = (t, 0) from if_neg (by omega))
            clear hdp hsz
            go_wp2_with fail
            refine KD.out.mono ?_
            rintro e w4 ⟨rfl, hb⟩
            have B2 := B2.keep hb
            have B4 := B4.keep hb
            have hv := HV.out.same (Same.of_below hb)
            have HB := Lib.hid (HB.out.trans (hb.mono HB.out.size))
            have h4 : w3.heap.size < w4.heap.size := B4.lt
            have q0 := B4.cell 0
            have q1 := B4.cell 1
            have q2 := B4.cell 2
            have q3 := B4.cell 3
            have qz := fun i => B4.fz i
            obtain ⟨A4, c4, e4, hlc4, hC4⟩ := HV.out.same (Same.of_below hb)
            simp only [Value.agg.injEq, Array.mk.injEq, List.cons.injEq, Value.slice.injEq, true_and, and_true] at e4
            obtain ⟨rfl, rfl⟩ := e4
            have KS := Lib.hid (term_Size.calls (2 * sizeT t) t.f0 t.f1 t.f2 A3 c3 t.f3 (sizeT t) _ (hC4 _ (Same.refl _ _)) hlc4 (size_eq t HSZ.out _ (Nat.le_refl _)))
            clear hC4 hlc4
            clear hb
            go_wp2_with fail
            refine KS.out.mono ?_
            rintro e w5 ⟨rfl, hb⟩
            have B2 := B2.keep hb
            have B4 := B4.keep hb
            have hv := hv.same (Same.of_below hb)
            have HB := Lib.hid (HB.out.trans (hb.mono HB.out.size))
            have d0 := B2.cell 0
            have d1 := B2.cell 1
            have d2 := B2.cell 2
            have d3 := B2.cell 3
            have dz := fun i => B2.fz i
            have q0 := B4.cell 0
            have q1 := B4.cell 1
            have q2 := B4.cell 2
            have q3 := B4.cell 3
            have qz := fun i => B4.fz i
            clear hb
            go_wp2_with fail
            refine ret_toks rfl rfl rfl (Own.four B2) ?_
            rw [HNE.out, HT.out]
            exact ⟨_, rfl, (hv.same (four_same (Same.refl _ _) (by have := H2.out; omega))).mono (Nat.le_of_lt H2.out), four_set (w3size := 0) HB.out⟩
      · have hne : toksR l = (zTm, 2) := hne.trans (if_pos fun h => by cases h)
        have HNE := Lib.hid hne
        have HRES := Lib.hid hres
        have HE := Lib.hid hE
        clear hE hne hG hr h1 h2 hres
        go_enter Tryz.func19, Tryz.ntmps19
        go_wp2_with fail
        refine K1.out.mono ?_
        rintro e w1 ⟨rfl, hb⟩
        have B2 := B2.keep hb
        have hr := HR.out.below hb
        have hG := HG.out.below hb
        have HE := pw_cell_below hb HE.out
        have K2 := Lib.hid (parse_nested.calls (l.length + 1) A c l (nestL l) w1 hr.1 hr.2 (nested_eq _ l hl (by omega)))
        have HB := Lib.hid (HW.out.trans (hb.mono (by simp)))
        have HG := Lib.hid hG
        have HR := Lib.hid hr
        have HE := Lib.hid HE
        clear hb hr hG
        go_wp2_with fail
        refine K2.out.mono ?_
        rintro e w2 ⟨rfl, hb⟩
        have B2 := B2.keep hb
        have hr := HR.out.below hb
        have HE := pw_cell_below hb HE.out
        have HG := Lib.hid (HG.out.below hb)
        have HB := Lib.hid (HB.out.trans (hb.mono HB.out.size))
        have KR := readC A c l _ _ w2 hr HE
        rw [HRES.out] at KR
        have KR := Lib.hid KR
        have HE := Lib.hid HE
        clear hb hr
        go_wp2_with fail
        refine KR.out.mono ?_
        rintro e w3 ⟨hb, b, n, rfl, hf⟩
        have B2 := (B2.keep hb).alloc (.cells zeroV 26)
        have hA := below_alloc (Below.refl w3.heap.size w3) (.cells zeroV 26)
        have HB := Lib.hid (HB.out.trans ((hb.trans (hA.mono hb.size)).mono HB.out.size))
        have KN := Lib.hid (numberC b n _ ((HG.out.below hb).below hA) _ (pw_cell_below hA (pw_cell_below hb HE.out)) (Own.alloc hf (.cells zeroV 26)))
        clear hb hf hA
        go_wp2_with fail
        refine KN.out.mono ?_
        rintro e w4 ⟨rfl, hb⟩
        have B2 := B2.keep hb
        have HB := Lib.hid (HB.out.trans (hb.mono HB.out.size))
        have d0 := B2.cell 0
        have d1 := B2.cell 1
        have d2 := B2.cell 2
        have d3 := B2.cell 3
        have dz := fun i => B2.fz i
        clear hb
        go_wp2_with fail
        refine ret_toks rfl rfl rfl (Own.four B2) ?_
        rw [HNE.out]
        exact told_zero _ (four_set (w3size := 0) HB.out)
end Go.Proofs.YtchekgnacodolaaGreatDoor.X
end
section
namespace Go.Proofs.YtchekgnacodolaaGreatDoor.X
open Go.RowKit Go.Proofs.YtchekgnacodolaaGreatDoorW.PrintWords Go.Proofs.YtchekgnacodolaaGreatDoorW.PrintLast Go.Proofs.YtchekgnacodolaaGreatDoorW.PrintMore
set_option linter.unusedSimpArgs false
set_option linter.unusedVariables false
theorem lexR_short (s : List UInt8) : (lexR s).1.length ≤ 65536 ∧ ∀ t ∈ (lexR s).1, t.f1.size ≤ 65536 := by
  unfold lexR
  by_cases h : s.length > 65536
  · rw [if_pos h]; exact ⟨by simp, fun t ht => by cases ht⟩
  · rw [if_neg h]
    cases ht : tokL s with
    | none => exact ⟨by simp, fun t ht => by cases ht⟩
    | some ts =>
      obtain ⟨-, h2, h3⟩ := tokL_all s.length s ts (Nat.le_refl _) ht
      exact ⟨by show ts.length ≤ _; omega, fun t hm => by have := h2 t hm; omega⟩
end Go.Proofs.YtchekgnacodolaaGreatDoor.X
end

-- Joined by our own program (wip/tools/prune.py) out of the seat's texts, less what this claim doesn't name.
import Derived.Test.YtchekgnacodolaaGreatDoorJ17
import Derived.Test.YtchekgnacodolaaGreatDoorJ20
import Derived.Test.YtchekgnacodolaaGreatDoorJ21
import Derived.Test.YtchekgnacodolaaGreatDoorJ27
import Derived.Test.YtchekgnacodolaaGreatDoorJ28
set_option maxHeartbeats 8000000
set_option maxRecDepth 100000
section
namespace Go.Proofs.YtchekgnacodolaaGreatDoor.X
open Go.RowKit Go.Proofs.YtchekgnacodolaaGreatDoorW.PrintWords Go.Proofs.YtchekgnacodolaaGreatDoorW.PrintLast Go.Proofs.YtchekgnacodolaaGreatDoorW.PrintMore
set_option linter.unusedSimpArgs false
set_option linter.unusedVariables false
theorem Own.keep {b : Nat} {w w1 : World} {cs : Array Value} {T : TypeId} (h : Own w b cs T) (hb : Below w.heap.size w w1) : Own w1 b cs T := zqn h hb
theorem results_toks {fn : Func} (h : fn.results = #[.cell 2 26, .tmp 3]) {tmps : Array Value} {w : World} {N : Nat} {a b c d : Value} {r : Value} (hp : tmps.getD 2 undef = .pointer (some ⟨N, 0, none⟩)) (hq : tmps.getD 3 undef = r) (h2 : Own w N #[a, b, c, d] 26) :
  (results fn tmps).run Tryz.prog w = .ok (.tuple #[.agg #[a, b, c, d], r]) w := by
 have hp' : tmps[2]?.getD undef = .pointer (some ⟨N, 0, none⟩) := by simpa using hp
 have hq' : tmps[3]?.getD undef = r := by simpa using hq
 have d0 : w.cell? ⟨N, 0, none⟩ = some a := h2.cell 0
 have d1 : w.cell? ⟨N, 1, none⟩ = some b := h2.cell 1
 have d2 : w.cell? ⟨N, 2, none⟩ = some c := h2.cell 2
 have d3 : w.cell? ⟨N, 3, none⟩ = some d := h2.cell 3
 simp [results, h, hp', hq', go_sem, d0, d1, d2, d3]
theorem ret_toks {fn : Func} {N : Nat} {tmps : Array Value} {w : World} {a b c d r : Value} {R : Ending → World → Prop} (h : fn.results = #[.cell 2 26, .tmp 3]) (hp : tmps.getD 2 undef = .pointer (some ⟨N, 0, none⟩)) (hq : tmps.getD 3 undef = r) (h2 : Own w N #[a, b, c, d] 26) (hR : R (.returned (.tuple #[.agg #[a, b, c, d], r])) w) :
  bodyPost Tryz.prog fn R Exit.ret { tmps := tmps, defers := [] } w := bodyPost_ret (results_toks h hp hq h2) rfl hR
def Told (w : World) (r : Tm × Int) (e : Ending) (w' : World) : Prop := ∃ v, e = .returned (.tuple #[v, .int .i64 r.2]) ∧ TmV w.heap.size w' r.1 v ∧ Below w.heap.size w w'
theorem told_zero {w w1 : World} (n : Int) (hb : Below w.heap.size w w1) : Told w (zTm, n) (.returned (.tuple #[.agg #[.int .i64 0, .string ⟨#[]⟩, .int .i64 0, .slice none 0 0], .int .i64 n])) w1 :=
 ⟨_, rfl, TmV.leaf _ _ _ _ _, hb⟩
theorem toksC (l : List TokT) (A : Option Addr) (c : Nat) (hl : l.length ≤ 1099511627776) (hs : ∀ t ∈ l, t.f1.size ≤ 281474976710656) (w : World) (hG : GL w) (hr : Reads w A c l) :
  Calls Tryz.prog 19 #[.slice A l.length c] w fun e w' => Told w (toksR l) e w' := by
 have hW := zqb (Below.refl w.heap.size w) (.cells zeroV 26)
 have hG := hG.below hW
 have hr := hr.below hW
 have K1 := Lib.hid (rightC l A c hs _ hG hr)
 have B2 := Own.new w zeroV 26
 have HW := Lib.hid hW
 clear hW
 cases h1 : l.all rightT with
 | false =>
  have ht : toksR l = (zTm, 2) := by unfold toksR; rw [if_pos h1]
  have HT := Lib.hid ht
  rw [h1] at K1
  clear hG hr h1 ht
  go_enter Tryz.func19, Tryz.ntmps19
  go_wp2_with fail
  refine K1.out.mono ?_
  rintro e w1 ⟨rfl, hb⟩
  have B2 := B2.keep hb
  have HB := Lib.hid (HW.out.trans (hb.mono (by simp)))
  have d0 := B2.cell 0
  have d1 := B2.cell 1
  have d2 := B2.cell 2
  have d3 := B2.cell 3
  have dz := fun i => B2.fz i
  clear hb
  go_wp2_with fail
  refine ret_toks rfl rfl rfl (Own.four B2) ?_
  rw [HT.out]
  exact told_zero _ (zqu (w3size := 0) HB.out)
 | true =>
  rw [h1] at K1
  by_cases h2 : 200 < nestL l
  ·have hd : decide (200 < nestL l) = true := by simpa using h2
   have HT := Lib.hid (show toksR l = (zTm, 1) by unfold toksR; rw [if_neg (by rw [h1]; decide), if_pos h2])
   have HG := Lib.hid hG
   have HR := Lib.hid hr
   clear hG hr h1 h2
   go_enter Tryz.func19, Tryz.ntmps19
   go_wp2_with fail
   refine K1.out.mono ?_
   rintro e w1 ⟨rfl, hb⟩
   have B2 := B2.keep hb
   have hr := HR.out.below hb
   have K2 := Lib.hid (parse_nested.calls (l.length + 1) A c l (nestL l) w1 hr.1 hr.2 (nested_eq _ l hl (by omega)))
   have HB := Lib.hid (HW.out.trans (hb.mono (by simp)))
   clear hb hr
   go_wp2_with fail
   refine K2.out.mono ?_
   rintro e w2 ⟨rfl, hb⟩
   have B2 := B2.keep hb
   have HB := Lib.hid (HB.out.trans (hb.mono HB.out.size))
   have d0 := B2.cell 0
   have d1 := B2.cell 1
   have d2 := B2.cell 2
   have d3 := B2.cell 3
   have dz := fun i => B2.fz i
   clear hb
   go_wp2_with fail
   refine ret_toks rfl rfl rfl (Own.four B2) ?_
   rw [HT.out]
   exact told_zero _ (zqu (w3size := 0) HB.out)
  ·have hd : decide (200 < nestL l) = false := by simpa using h2
   obtain ⟨Ea, hE⟩ := hG.gram
   have hne : (toksR l) = match parseL l with | none => (zTm, 2) | some (t, s) => if s ≠ [] then (zTm, 2) else if 200 < depthT t ∨ 10000 < sizeT t then (zTm, 1) else (t, 0) := by
    unfold toksR; rw [if_neg (by rw [h1]; decide), if_neg h2]; rcases parseL l with _ | ⟨t, s⟩ <;> rfl
   have HG := Lib.hid hG
   have HR := Lib.hid hr
   rcases hres : parseL l with _ | ⟨t, _ | ⟨x, s'⟩⟩
   all_goals rw [hres] at hne
   ·skip
    have HNE := Lib.hid hne
    have HRES := Lib.hid hres
    have HE := Lib.hid hE
    clear hE hne hG hr h1 h2 hres
    go_enter Tryz.func19, Tryz.ntmps19
    go_wp2_with fail
    refine K1.out.mono ?_
    rintro e w1 ⟨rfl, hb⟩
    have B2 := B2.keep hb
    have hr := HR.out.below hb
    have hG := HG.out.below hb
    have HE := zqt hb HE.out
    have K2 := Lib.hid (parse_nested.calls (l.length + 1) A c l (nestL l) w1 hr.1 hr.2 (nested_eq _ l hl (by omega)))
    have HB := Lib.hid (HW.out.trans (hb.mono (by simp)))
    have HG := Lib.hid hG
    have HR := Lib.hid hr
    have HE := Lib.hid HE
    clear hb hr hG
    go_wp2_with fail
    refine K2.out.mono ?_
    rintro e w2 ⟨rfl, hb⟩
    have B2 := B2.keep hb
    have hr := HR.out.below hb
    have HE := zqt hb HE.out
    have HG := Lib.hid (HG.out.below hb)
    have HB := Lib.hid (HB.out.trans (hb.mono HB.out.size))
    have KR := readC A c l _ _ w2 hr HE
    rw [HRES.out] at KR
    have KR := Lib.hid KR
    have HE := Lib.hid HE
    clear hb hr
    go_wp2_with fail
    refine KR.out.mono ?_
    rintro e w3 ⟨hb, b, n, rfl, hf⟩
    have B2 := (B2.keep hb).alloc (.cells zeroV 26)
    have hA := zqb (Below.refl w3.heap.size w3) (.cells zeroV 26)
    have HB := Lib.hid (HB.out.trans ((hb.trans (hA.mono hb.size)).mono HB.out.size))
    have KN := Lib.hid (numberC b n _ ((HG.out.below hb).below hA) _ (zqt hA (zqt hb HE.out)) (Own.alloc hf (.cells zeroV 26)))
    clear hb hf hA
    go_wp2_with fail
    refine KN.out.mono ?_
    rintro e w4 ⟨rfl, hb⟩
    have B2 := B2.keep hb
    have HB := Lib.hid (HB.out.trans (hb.mono HB.out.size))
    have d0 := B2.cell 0
    have d1 := B2.cell 1
    have d2 := B2.cell 2
    have d3 := B2.cell 3
    have dz := fun i => B2.fz i
    clear hb
    go_wp2_with fail
    refine ret_toks rfl rfl rfl (Own.four B2) ?_
    rw [HNE.out]
    exact told_zero _ (zqu (w3size := 0) HB.out)
   ·have HSZ := Lib.hid (show sizeT t ≤ 9223372036854775807 from Nat.le_trans (parse_size h1 hres) (by omega))
    have hne : toksR l = if 200 < depthT t ∨ 10000 < sizeT t then (zTm, 1) else (t, 0) := hne.trans (if_neg fun h => h rfl)
    have HNE := Lib.hid hne
    have HRES := Lib.hid hres
    have HE := Lib.hid hE
    clear hE hne hG hr h1 h2 hres
    go_enter Tryz.func19, Tryz.ntmps19
    go_wp2_with fail
    refine K1.out.mono ?_
    rintro e w1 ⟨rfl, hb⟩
    have B2 := B2.keep hb
    have hr := HR.out.below hb
    have hG := HG.out.below hb
    have HE := zqt hb HE.out
    have K2 := Lib.hid (parse_nested.calls (l.length + 1) A c l (nestL l) w1 hr.1 hr.2 (nested_eq _ l hl (by omega)))
    have HB := Lib.hid (HW.out.trans (hb.mono (by simp)))
    have HG := Lib.hid hG
    have HR := Lib.hid hr
    have HE := Lib.hid HE
    clear hb hr hG
    go_wp2_with fail
    refine K2.out.mono ?_
    rintro e w2 ⟨rfl, hb⟩
    have B2 := B2.keep hb
    have hr := HR.out.below hb
    have HE := zqt hb HE.out
    have HG := Lib.hid (HG.out.below hb)
    have HB := Lib.hid (HB.out.trans (hb.mono HB.out.size))
    have KR := readC A c l _ _ w2 hr HE
    rw [HRES.out] at KR
    have KR := Lib.hid KR
    have HE := Lib.hid HE
    clear hb hr
    go_wp2_with fail
    refine KR.out.mono ?_
    rintro e w3 ⟨hb, v, rfl, hv⟩
    obtain ⟨A3, c3, rfl, hlc, hC⟩ := hv
    have hv : TmV w2.heap.size w3 t (.agg #[.int .i64 t.f0, .string t.f1, .int .i64 t.f2, .slice A3 t.f3.length c3]) := ⟨A3, c3, rfl, hlc, hC⟩
    have hv := hv.same ((Same.refl _ _).alloc (.cells #[.int .i64 t.f0, .string t.f1, .int .i64 t.f2, .slice A3 t.f3.length c3] 26))
    have hlt2 : w.heap.size < w2.heap.size := B2.lt
    have B2 := (B2.keep hb).alloc (.cells #[.int .i64 t.f0, .string t.f1, .int .i64 t.f2, .slice A3 t.f3.length c3] 26)
    have B4 := Own.new w3 #[.int .i64 t.f0, .string t.f1, .int .i64 t.f2, .slice A3 t.f3.length c3] 26
    have hA := zqb (Below.refl w3.heap.size w3) (.cells #[.int .i64 t.f0, .string t.f1, .int .i64 t.f2, .slice A3 t.f3.length c3] 26)
    have H2 := Lib.hid hlt2
    have HB := Lib.hid (HB.out.trans ((hb.trans (hA.mono hb.size)).mono HB.out.size))
    have KD := Lib.hid (term_Depth.calls (2 * sizeT t) t.f0 t.f1 t.f2 A3 c3 t.f3 (depthT t) _ (hC _ ((Same.refl _ _).alloc (.cells #[.int .i64 t.f0, .string t.f1, .int .i64 t.f2, .slice A3 t.f3.length c3] 26))) hlc (depth_eq t HSZ.out _ (Nat.le_refl _)))
    have HC := Lib.hid hC
    have HV := Lib.hid hv
    have q0 := B4.cell 0
    have q1 := B4.cell 1
    have q2 := B4.cell 2
    have q3 := B4.cell 3
    have qz := fun i => B4.fz i
    clear hb hv hA hC
    by_cases hdp : 200 < depthT t
    ·have hdd : decide (200 < (depthT t : Int)) = true := by rw [decide_eq_true_eq]; omega
     have HT := Lib.hid (show (if 200 < depthT t ∨ 10000 < sizeT t then (zTm, (1 : Int)) else (t, 0)) = (zTm, 1) from if_pos (.inl hdp))
     clear hdp
     go_wp2_with fail
     refine KD.out.mono ?_
     rintro e w4 ⟨rfl, hb⟩
     have B2 := B2.keep hb
     have B4 := B4.keep hb
     have hv := HV.out.same (Same.of_below hb)
     have HB := Lib.hid (HB.out.trans (hb.mono HB.out.size))
     have h4 : w3.heap.size < w4.heap.size := B4.lt
     have d0 := B2.cell 0
     have d1 := B2.cell 1
     have d2 := B2.cell 2
     have d3 := B2.cell 3
     have dz := fun i => B2.fz i
     clear hb hv
     go_wp2_with fail
     refine ret_toks rfl rfl rfl (Own.four B2) ?_
     rw [HNE.out, HT.out]
     exact told_zero _ (zqu (w3size := 0) HB.out)
    ·have hdd : decide (200 < (depthT t : Int)) = false := by rw [decide_eq_false_iff_not]; omega
     by_cases hsz : 10000 < sizeT t
     ·have hss : decide (10000 < (sizeT t : Int)) = true := by rw [decide_eq_true_eq]; omega
      have HT := Lib.hid (show (if 200 < depthT t ∨ 10000 < sizeT t then (zTm, (1 : Int)) else (t, 0)) = (zTm, 1) from if_pos (.inr hsz))
      clear hdp hsz
      go_wp2_with fail
      refine KD.out.mono ?_
      rintro e w4 ⟨rfl, hb⟩
      have B2 := B2.keep hb
      have B4 := B4.keep hb
      have hv := HV.out.same (Same.of_below hb)
      have HB := Lib.hid (HB.out.trans (hb.mono HB.out.size))
      have h4 : w3.heap.size < w4.heap.size := B4.lt
      have q0 := B4.cell 0
      have q1 := B4.cell 1
      have q2 := B4.cell 2
      have q3 := B4.cell 3
      have qz := fun i => B4.fz i
      obtain ⟨A4, c4, e4, hlc4, hC4⟩ := HV.out.same (Same.of_below hb)
      simp only [Value.agg.injEq, Array.mk.injEq, List.cons.injEq, Value.slice.injEq, true_and, and_true] at e4
      obtain ⟨rfl, rfl⟩ := e4
      have KS := Lib.hid (term_Size.calls (2 * sizeT t) t.f0 t.f1 t.f2 A3 c3 t.f3 (sizeT t) _ (hC4 _ (Same.refl _ _)) hlc4 (size_eq t HSZ.out _ (Nat.le_refl _)))
      clear hC4 hlc4
      clear hb hv
      go_wp2_with fail
      refine KS.out.mono ?_
      rintro e w5 ⟨rfl, hb⟩
      have B2 := B2.keep hb
      have B4 := B4.keep hb
      have HB := Lib.hid (HB.out.trans (hb.mono HB.out.size))
      have d0 := B2.cell 0
      have d1 := B2.cell 1
      have d2 := B2.cell 2
      have d3 := B2.cell 3
      have dz := fun i => B2.fz i
      clear hb
      go_wp2_with fail
      refine ret_toks rfl rfl rfl (Own.four B2) ?_
      rw [HNE.out, HT.out]
      exact told_zero _ (zqu (w3size := 0) HB.out)
     ·have hss : decide (10000 < (sizeT t : Int)) = false := by rw [decide_eq_false_iff_not]; omega
      have HT := Lib.hid (show (if 200 < depthT t ∨ 10000 < sizeT t then (zTm, (1 : Int)) else (t, 0)) = (t, 0) from if_neg (by omega))
      clear hdp hsz
      go_wp2_with fail
      refine KD.out.mono ?_
      rintro e w4 ⟨rfl, hb⟩
      have B2 := B2.keep hb
      have B4 := B4.keep hb
      have hv := HV.out.same (Same.of_below hb)
      have HB := Lib.hid (HB.out.trans (hb.mono HB.out.size))
      have h4 : w3.heap.size < w4.heap.size := B4.lt
      have q0 := B4.cell 0
      have q1 := B4.cell 1
      have q2 := B4.cell 2
      have q3 := B4.cell 3
      have qz := fun i => B4.fz i
      obtain ⟨A4, c4, e4, hlc4, hC4⟩ := HV.out.same (Same.of_below hb)
      simp only [Value.agg.injEq, Array.mk.injEq, List.cons.injEq, Value.slice.injEq, true_and, and_true] at e4
      obtain ⟨rfl, rfl⟩ := e4
      have KS := Lib.hid (term_Size.calls (2 * sizeT t) t.f0 t.f1 t.f2 A3 c3 t.f3 (sizeT t) _ (hC4 _ (Same.refl _ _)) hlc4 (size_eq t HSZ.out _ (Nat.le_refl _)))
      clear hC4 hlc4
      clear hb
      go_wp2_with fail
      refine KS.out.mono ?_
      rintro e w5 ⟨rfl, hb⟩
      have B2 := B2.keep hb
      have B4 := B4.keep hb
      have hv := hv.same (Same.of_below hb)
      have HB := Lib.hid (HB.out.trans (hb.mono HB.out.size))
      have d0 := B2.cell 0
      have d1 := B2.cell 1
      have d2 := B2.cell 2
      have d3 := B2.cell 3
      have dz := fun i => B2.fz i
      have q0 := B4.cell 0
      have q1 := B4.cell 1
      have q2 := B4.cell 2
      have q3 := B4.cell 3
      have qz := fun i => B4.fz i
      clear hb
      go_wp2_with fail
      refine ret_toks rfl rfl rfl (Own.four B2) ?_
      rw [HNE.out, HT.out]
      exact ⟨_, rfl, (hv.same (zqv (Same.refl _ _) (by have := H2.out; omega))).mono (Nat.le_of_lt H2.out), zqu (w3size := 0) HB.out⟩
   ·have hne : toksR l = (zTm, 2) := hne.trans (if_pos fun h => by cases h)
    have HNE := Lib.hid hne
    have HRES := Lib.hid hres
    have HE := Lib.hid hE
    clear hE hne hG hr h1 h2 hres
    go_enter Tryz.func19, Tryz.ntmps19
    go_wp2_with fail
    refine K1.out.mono ?_
    rintro e w1 ⟨rfl, hb⟩
    have B2 := B2.keep hb
    have hr := HR.out.below hb
    have hG := HG.out.below hb
    have HE := zqt hb HE.out
    have K2 := Lib.hid (parse_nested.calls (l.length + 1) A c l (nestL l) w1 hr.1 hr.2 (nested_eq _ l hl (by omega)))
    have HB := Lib.hid (HW.out.trans (hb.mono (by simp)))
    have HG := Lib.hid hG
    have HR := Lib.hid hr
    have HE := Lib.hid HE
    clear hb hr hG
    go_wp2_with fail
    refine K2.out.mono ?_
    rintro e w2 ⟨rfl, hb⟩
    have B2 := B2.keep hb
    have hr := HR.out.below hb
    have HE := zqt hb HE.out
    have HG := Lib.hid (HG.out.below hb)
    have HB := Lib.hid (HB.out.trans (hb.mono HB.out.size))
    have KR := readC A c l _ _ w2 hr HE
    rw [HRES.out] at KR
    have KR := Lib.hid KR
    have HE := Lib.hid HE
    clear hb hr
    go_wp2_with fail
    refine KR.out.mono ?_
    rintro e w3 ⟨hb, b, n, rfl, hf⟩
    have B2 := (B2.keep hb).alloc (.cells zeroV 26)
    have hA := zqb (Below.refl w3.heap.size w3) (.cells zeroV 26)
    have HB := Lib.hid (HB.out.trans ((hb.trans (hA.mono hb.size)).mono HB.out.size))
    have KN := Lib.hid (numberC b n _ ((HG.out.below hb).below hA) _ (zqt hA (zqt hb HE.out)) (Own.alloc hf (.cells zeroV 26)))
    clear hb hf hA
    go_wp2_with fail
    refine KN.out.mono ?_
    rintro e w4 ⟨rfl, hb⟩
    have B2 := B2.keep hb
    have HB := Lib.hid (HB.out.trans (hb.mono HB.out.size))
    have d0 := B2.cell 0
    have d1 := B2.cell 1
    have d2 := B2.cell 2
    have d3 := B2.cell 3
    have dz := fun i => B2.fz i
    clear hb
    go_wp2_with fail
    refine ret_toks rfl rfl rfl (Own.four B2) ?_
    rw [HNE.out]
    exact told_zero _ (zqu (w3size := 0) HB.out)
end Go.Proofs.YtchekgnacodolaaGreatDoor.X
end
section
namespace Go.Proofs.YtchekgnacodolaaGreatDoor.X
open Go.RowKit Go.Proofs.YtchekgnacodolaaGreatDoorW.PrintWords Go.Proofs.YtchekgnacodolaaGreatDoorW.PrintLast Go.Proofs.YtchekgnacodolaaGreatDoorW.PrintMore
set_option linter.unusedSimpArgs false
set_option linter.unusedVariables false
theorem lexR_short (s : List UInt8) : (lexR s).1.length ≤ 65536 ∧ ∀ t ∈ (lexR s).1, t.f1.size ≤ 65536 := by
 unfold lexR
 by_cases h : s.length > 65536
 ·rw [if_pos h]; exact ⟨by simp, fun t ht => by cases ht⟩
 ·rw [if_neg h]
  cases ht : tokL s with
  | none => exact ⟨by simp, fun t ht => by cases ht⟩
  | some ts =>
   obtain ⟨-, h2, h3⟩ := tokL_all s.length s ts (Nat.le_refl _) ht
   exact ⟨by show ts.length ≤ _; omega, fun t hm => by have := h2 t hm; omega⟩
theorem parseC (s : List UInt8) (hl : s.length ≤ 9223372036854775807) (w : World) (hG : GL w) :
  Calls Tryz.prog 22 #[.string (B s)] w fun e w' => Told w (parseR s) e w' := by
 have hW := zqb (Below.refl w.heap.size w) (.cells zeroV 26)
 have hG := hG.below hW
 have K1 := Lib.hid (lexC s hl _ hG)
 have B2 := Own.new w zeroV 26
 have HW := Lib.hid hW
 have HG := Lib.hid hG
 clear hW hG
 by_cases h1 : (lexR s).2 = 0
 ·have hb1 : ((lexR s).2 != 0) = false := by rw [h1]; rfl
  have HT := Lib.hid (show parseR s = toksR (lexR s).1 by unfold parseR; rw [if_neg (by rw [h1]; decide)])
  clear h1
  go_enter Tryz.func22, Tryz.ntmps22
  go_wp2_with fail
  refine K1.out.mono ?_
  rintro e w1 ⟨A, c, rfl, hr, -, hb⟩
  have B2 := B2.keep hb
  have KT := Lib.hid (toksC (lexR s).1 A c (Nat.le_trans (lexR_short s).1 (by decide)) (fun t ht => Nat.le_trans ((lexR_short s).2 t ht) (by decide)) w1 (HG.out.below hb) hr)
  have HB := Lib.hid (HW.out.trans (hb.mono (by simp)))
  clear hb hr
  go_wp2_with fail
  refine KT.out.mono ?_
  rintro e w2 ⟨v, rfl, hv, hb⟩
  obtain ⟨A3, c3, rfl, hlc, hC⟩ := hv
  have hv : TmV w1.heap.size w2 (toksR (lexR s).1).1 (.agg #[.int .i64 (toksR (lexR s).1).1.f0, .string (toksR (lexR s).1).1.f1, .int .i64 (toksR (lexR s).1).1.f2, .slice A3 (toksR (lexR s).1).1.f3.length c3]) := ⟨A3, c3, rfl, hlc, hC⟩
  have H2 := Lib.hid (show w.heap.size < w1.heap.size from B2.lt)
  have B2 := B2.keep hb
  have HB := Lib.hid (HB.out.trans (hb.mono HB.out.size))
  have d0 := B2.cell 0
  have d1 := B2.cell 1
  have d2 := B2.cell 2
  have d3 := B2.cell 3
  have dz := fun i => B2.fz i
  clear hb hC hlc
  go_wp2_with fail
  refine ret_toks rfl rfl rfl (Own.four B2) ?_
  rw [HT.out]
  exact ⟨_, rfl, (hv.same (zqv (Same.refl _ _) H2.out)).mono (Nat.le_of_lt H2.out), zqu (w3size := 0) HB.out⟩
 ·have hb1 : ((lexR s).2 != 0) = true := by simpa using h1
  have HT := Lib.hid (show parseR s = (zTm, (lexR s).2) by unfold parseR; rw [if_pos h1])
  clear h1
  go_enter Tryz.func22, Tryz.ntmps22
  go_wp2_with fail
  refine K1.out.mono ?_
  rintro e w1 ⟨A, c, rfl, hr, -, hb⟩
  have B2 := B2.keep hb
  have HB := Lib.hid (HW.out.trans (hb.mono (by simp)))
  have d0 := B2.cell 0
  have d1 := B2.cell 1
  have d2 := B2.cell 2
  have d3 := B2.cell 3
  have dz := fun i => B2.fz i
  clear hb hr
  go_wp2_with fail
  refine ret_toks rfl rfl rfl (Own.four B2) ?_
  rw [HT.out]
  exact told_zero _ (zqu (w3size := 0) HB.out)
end Go.Proofs.YtchekgnacodolaaGreatDoor.X
end
section
namespace Go.Proofs.YtchekgnacodolaaGreatDoor.X
open Go.RowKit Go.Proofs.YtchekgnacodolaaGreatDoorW.PrintWords Go.Proofs.YtchekgnacodolaaGreatDoorW.PrintLast Go.Proofs.YtchekgnacodolaaGreatDoorW.PrintMore
set_option linter.unusedSimpArgs false
set_option linter.unusedVariables false
def ex5_1 : Tm := ⟨4, ⟨#[]⟩, 0, [⟨4, ⟨#[]⟩, 0, [⟨2, ⟨#[97]⟩, 0, []⟩, ⟨2, ⟨#[98]⟩, 0, []⟩]⟩, ⟨2, ⟨#[99]⟩, 0, []⟩]⟩
theorem ex5e_1 : parseR [97, 32, 98, 32, 99] = (ex5_1, 0) := by kernel_rfl
def ex5_2 : Tm := ⟨5, ⟨#[120]⟩, 0, [⟨1, ⟨#[]⟩, 1, []⟩, ⟨13, ⟨#[]⟩, 0, [⟨12, ⟨#[43]⟩, 0, [⟨2, ⟨#[120]⟩, 0, []⟩, ⟨1, ⟨#[]⟩, 2, []⟩]⟩, ⟨11, ⟨#[]⟩, 0, [⟨10, ⟨#[]⟩, 0, [⟨2, ⟨#[99]⟩, 0, []⟩]⟩, ⟨2, ⟨#[120]⟩, 0, []⟩]⟩]⟩]⟩
theorem ex5e_2 : parseR [108, 101, 116, 32, 120, 32, 61, 32, 49, 32, 105, 110, 32, 120, 32, 43, 32, 50, 32, 59, 32, 33, 99, 32, 58, 61, 32, 120] = (ex5_2, 0) := by kernel_rfl
def ex5_3 : Tm := ⟨0, ⟨#[]⟩, 0, []⟩
theorem ex5e_3 : parseR [97, 32, 43, 32, 98, 32, 43, 32, 99] = (ex5_3, 2) := by kernel_rfl
def ex5_4 : Tm := ⟨0, ⟨#[]⟩, 0, []⟩
theorem ex5e_4 : parseR [] = (ex5_4, 2) := by kernel_rfl
def ex5_5 : Tm := ⟨6, ⟨#[]⟩, 0, [⟨2, ⟨#[97]⟩, 0, []⟩, ⟨2, ⟨#[98]⟩, 0, []⟩, ⟨13, ⟨#[]⟩, 0, [⟨2, ⟨#[99]⟩, 0, []⟩, ⟨2, ⟨#[100]⟩, 0, []⟩]⟩]⟩
theorem ex5e_5 : parseR [105, 102, 32, 97, 32, 116, 104, 101, 110, 32, 98, 32, 101, 108, 115, 101, 32, 99, 32, 59, 32, 100] = (ex5_5, 0) := by kernel_rfl
def ex5_6 : Tm := ⟨8, ⟨#[]⟩, 0, [⟨11, ⟨#[]⟩, 0, [⟨2, ⟨#[120]⟩, 0, []⟩, ⟨1, ⟨#[]⟩, 2, []⟩]⟩]⟩
theorem ex5e_6 : parseR [114, 97, 105, 115, 101, 32, 120, 32, 58, 61, 32, 50] = (ex5_6, 0) := by kernel_rfl
def ex5_22 : Tm := (ex5_2.f3).getD 1 ⟨0, ⟨#[]⟩, 0, []⟩
theorem exC (s : List UInt8) (t : Tm) (n : Int) (k : Int) (nm : ByteArray) (m : Nat) (h : parseR s = (t, n)) (h0 : t.f0 = k) (h1 : t.f1 = nm) (h2 : t.f2 = 0) (h3 : t.f3.length = m) (hl : s.length ≤ 100) (w : World) (hG : GL w) :
  Calls Tryz.prog 22 #[.string (B s)] w fun e w' => ∃ A c, e = .returned (.tuple #[.agg #[.int .i64 k, .string nm, .int .i64 0, .slice A m c], .int .i64 n]) ∧ Kd.C k26 w' A t.f3.length t.f3 ∧ Below w.heap.size w w' := by
 refine (parseC s (by omega) w hG).mono ?_
 rw [h]
 rintro e w' ⟨v, rfl, hv, hb⟩
 obtain ⟨A, c, rfl, hl, hC⟩ := hv
 refine ⟨A, c, ?_, hC w' (Same.refl _ _), hb⟩
 rw [← h0, ← h1, ← h2, ← h3]
theorem TmR.atq {w : World} {A : Option Addr} {l : List Tm} {n : Nat} (h : Kd.C k26 w A n l) (i p : Nat) (x : Tm) (k : Int) (nm : ByteArray) (m : Nat) (hn : n = l.length) (hi : l[i]? = some x) (h0 : x.f0 = k) (h1 : x.f1 = nm) (h3 : x.f3.length = m) (hp : i * 4 = p) :
  ∃ ad A3 c3, A = some ad ∧ w.cell? (ad.add p) = some (.int .i64 k) ∧ w.cell? ⟨(ad.add p).block, (ad.add p).off + 1, none⟩ = some (.string nm) ∧ w.cell? ⟨(ad.add p).block, (ad.add p).off + 3, none⟩ = some (.slice A3 m c3) ∧ Kd.C k26 w A3 x.f3.length x.f3 := by
 subst hn
 subst hp
 subst h0
 subst h1
 subst h3
 obtain ⟨hlt, rfl⟩ := List.getElem?_eq_some_iff.1 hi
 obtain ⟨ad, A3, c3, e, h0, h1, h2, h3, A4, c4, e4, hl, hC⟩ := TmR.at h i hlt
 simp only [Value.agg.injEq, Array.mk.injEq, List.cons.injEq, Value.slice.injEq, true_and, and_true] at e4
 obtain ⟨rfl, rfl⟩ := e4
 exact ⟨ad, A3, c3, e, h0, h1, h3, hC⟩
theorem TmR.at' {w : World} {A : Option Addr} {l : List Tm} {n : Nat} (h : Kd.C k26 w A n l) (i p : Nat) (x : Tm) (k : Int) (nm : ByteArray) (m : Nat) (hn : n = l.length) (hi : l[i]? = some x) (h0 : x.f0 = k) (h1 : x.f1 = nm) (h3 : x.f3.length = m) (hp : i * 4 = p) (h0p : p ≠ 0) :
  ∃ ad A3 c3, A = some ad ∧ w.cell? ⟨ad.block, ad.off + p, none⟩ = some (.int .i64 k) ∧ w.cell? ⟨ad.block, ad.off + p + 1, none⟩ = some (.string nm) ∧ w.cell? ⟨ad.block, ad.off + p + 3, none⟩ = some (.slice A3 m c3) ∧ Kd.C k26 w A3 x.f3.length x.f3 := by
 obtain ⟨ad, A3, c3, e, a0, a1, a3, hC⟩ := TmR.atq h i p x k nm m hn hi h0 h1 h3 hp
 have hadd : ad.add p = ⟨ad.block, ad.off + p, none⟩ := by unfold Addr.add; rw [if_neg h0p]
 rw [hadd] at a0 a1 a3
 exact ⟨ad, A3, c3, e, a0, a1, a3, hC⟩
theorem TmR.at0 {w : World} {A : Option Addr} {l : List Tm} {n : Nat} (h : Kd.C k26 w A n l) (x : Tm) (k : Int) (nm : ByteArray) (m : Nat) (hn : n = l.length) (hi : l[0]? = some x) (h0 : x.f0 = k) (h1 : x.f1 = nm) (h3 : x.f3.length = m) :
  ∃ ad A3 c3, A = some ad ∧ w.cell? ad = some (.int .i64 k) ∧ w.cell? ⟨ad.block, ad.off + 1, none⟩ = some (.string nm) ∧ w.cell? ⟨ad.block, ad.off + 3, none⟩ = some (.slice A3 m c3) ∧ Kd.C k26 w A3 x.f3.length x.f3 := TmR.atq h 0 0 x k nm m hn hi h0 h1 h3 rfl
theorem exam5C (w : World) (hG : GL w) : Calls Tryz.prog 18 #[] w fun e w' => e = .returned (.bool true) ∧ Below w.heap.size w w' := by
 have HG := Lib.hid hG
 have HB := Lib.hid (Below.refl w.heap.size w)
 have K1 := Lib.hid (exC _ ex5_1 _ 4 ⟨#[]⟩ 2 ex5e_1 rfl rfl rfl rfl (by decide) w hG)
 clear hG
 go_enter Tryz.func18, Tryz.ntmps18
 go_wp2_with fail
 refine K1.out.mono ?_
 rintro e w1 ⟨A1, c1, rfl, hC, hb⟩
 have hA := zqb (Below.refl w1.heap.size w1) (.cells #[.int .i64 4, .string ⟨#[]⟩, .int .i64 0, .slice A1 2 c1] 26)
 have hW := hb.trans (hA.mono hb.size)
 have HG := Lib.hid (HG.out.below hW)
 have HB := Lib.hid (HB.out.trans (hW.mono HB.out.size))
 have O1 := Lib.hid (Own.new w1 #[.int .i64 4, .string ⟨#[]⟩, .int .i64 0, .slice A1 2 c1] 26)
 have C1 := Lib.hid (Kd.C_below hC hA)
 have K2 := Lib.hid (exC _ ex5_2 _ 5 ⟨#[120]⟩ 2 ex5e_2 rfl rfl rfl rfl (by decide) _ HG.out)
 clear hA hW hb hC
 go_wp2_with fail
 refine K2.out.mono ?_
 rintro e w2 ⟨A2, c2, rfl, hC, hb⟩
 have hA := zqb (Below.refl w2.heap.size w2) (.cells #[.int .i64 5, .string ⟨#[120]⟩, .int .i64 0, .slice A2 2 c2] 26)
 have hW := hb.trans (hA.mono hb.size)
 have HG := Lib.hid (HG.out.below hW)
 have HB := Lib.hid (HB.out.trans (hW.mono HB.out.size))
 have O1 := Lib.hid (O1.out.keep hW)
 have C1 := Lib.hid (Kd.C_below C1.out hW)
 have O2 := Lib.hid (Own.new w2 #[.int .i64 5, .string ⟨#[120]⟩, .int .i64 0, .slice A2 2 c2] 26)
 have C2 := Lib.hid (Kd.C_below hC hA)
 have K3 := Lib.hid (exC _ ex5_3 _ 0 ⟨#[]⟩ 0 ex5e_3 rfl rfl rfl rfl (by decide) _ HG.out)
 clear hA hW hb hC
 go_wp2_with fail
 refine K3.out.mono ?_
 rintro e w3 ⟨A3, c3, rfl, hC, hb⟩
 have hA := zqb (Below.refl w3.heap.size w3) (.cells #[.int .i64 0, .string ⟨#[]⟩, .int .i64 0, .slice A3 0 c3] 26)
 have hW := hb.trans (hA.mono hb.size)
 have HG := Lib.hid (HG.out.below hW)
 have HB := Lib.hid (HB.out.trans (hW.mono HB.out.size))
 have O1 := Lib.hid (O1.out.keep hW)
 have C1 := Lib.hid (Kd.C_below C1.out hW)
 have O2 := Lib.hid (O2.out.keep hW)
 have C2 := Lib.hid (Kd.C_below C2.out hW)
 have K4 := Lib.hid (exC _ ex5_4 _ 0 ⟨#[]⟩ 0 ex5e_4 rfl rfl rfl rfl (by decide) _ HG.out)
 clear hA hW hb hC
 go_wp2_with fail
 refine K4.out.mono ?_
 rintro e w4 ⟨A4, c4, rfl, hC, hb⟩
 have hA := zqb (Below.refl w4.heap.size w4) (.cells #[.int .i64 0, .string ⟨#[]⟩, .int .i64 0, .slice A4 0 c4] 26)
 have hW := hb.trans (hA.mono hb.size)
 have HG := Lib.hid (HG.out.below hW)
 have HB := Lib.hid (HB.out.trans (hW.mono HB.out.size))
 have O1 := Lib.hid (O1.out.keep hW)
 have C1 := Lib.hid (Kd.C_below C1.out hW)
 have O2 := Lib.hid (O2.out.keep hW)
 have C2 := Lib.hid (Kd.C_below C2.out hW)
 have K5 := Lib.hid (exC _ ex5_5 _ 6 ⟨#[]⟩ 3 ex5e_5 rfl rfl rfl rfl (by decide) _ HG.out)
 clear hA hW hb hC
 go_wp2_with fail
 refine K5.out.mono ?_
 rintro e w5 ⟨A5, c5, rfl, hC, hb⟩
 have hA := zqb (Below.refl w5.heap.size w5) (.cells #[.int .i64 6, .string ⟨#[]⟩, .int .i64 0, .slice A5 3 c5] 26)
 have hW := hb.trans (hA.mono hb.size)
 have HG := Lib.hid (HG.out.below hW)
 have HB := Lib.hid (HB.out.trans (hW.mono HB.out.size))
 have O1 := Lib.hid (O1.out.keep hW)
 have C1 := Lib.hid (Kd.C_below C1.out hW)
 have O2 := Lib.hid (O2.out.keep hW)
 have C2 := Lib.hid (Kd.C_below C2.out hW)
 have O5 := Lib.hid (Own.new w5 #[.int .i64 6, .string ⟨#[]⟩, .int .i64 0, .slice A5 3 c5] 26)
 have C5 := Lib.hid (Kd.C_below hC hA)
 have K6 := Lib.hid (exC _ ex5_6 _ 8 ⟨#[]⟩ 1 ex5e_6 rfl rfl rfl rfl (by decide) _ HG.out)
 clear hA hW hb hC
 go_wp2_with fail
 refine K6.out.mono ?_
 rintro e w6 ⟨A6, c6, rfl, hC, hb⟩
 have hA := zqb (Below.refl w6.heap.size w6) (.cells #[.int .i64 8, .string ⟨#[]⟩, .int .i64 0, .slice A6 1 c6] 26)
 have hW := hb.trans (hA.mono hb.size)
 have HG := Lib.hid (HG.out.below hW)
 have HB := Lib.hid (HB.out.trans (hW.mono HB.out.size))
 have O1 := Lib.hid (O1.out.keep hW)
 have C1 := Lib.hid (Kd.C_below C1.out hW)
 have O2 := Lib.hid (O2.out.keep hW)
 have C2 := Lib.hid (Kd.C_below C2.out hW)
 have O5 := Lib.hid (O5.out.keep hW)
 have C5 := Lib.hid (Kd.C_below C5.out hW)
 have O6 := Lib.hid (Own.new w6 #[.int .i64 8, .string ⟨#[]⟩, .int .i64 0, .slice A6 1 c6] 26)
 have C6 := Lib.hid (Kd.C_below hC hA)
 clear hA hW hb hC
 have o10 := O1.out.cell 0
 have o13 := O1.out.cell 3
 have o20 := O2.out.cell 0
 have o23 := O2.out.cell 3
 have o50 := O5.out.cell 0
 have o53 := O5.out.cell 3
 have o60 := O6.out.cell 0
 have o63 := O6.out.cell 3
 obtain ⟨a1, A11, c11, rfl, f11, -, -, -⟩ := TmR.at0 C1.out _ 4 ⟨#[]⟩ 2 rfl rfl rfl rfl rfl
 obtain ⟨a1', A12, c12, e12, -, f12, -, -⟩ := TmR.at' C1.out 1 4 _ 2 ⟨#[99]⟩ 0 rfl rfl rfl rfl rfl rfl (by decide)
 cases e12
 obtain ⟨a2, A22, c22, rfl, f22, -, g22, C22⟩ := TmR.at' C2.out 1 4 ex5_22 13 ⟨#[]⟩ 2 rfl rfl rfl rfl rfl rfl (by decide)
 obtain ⟨a22, A23, c23, rfl, f23, -, -, -⟩ := TmR.at' C22 1 4 _ 11 ⟨#[]⟩ 2 rfl rfl rfl rfl rfl rfl (by decide)
 obtain ⟨a5, A52, c52, rfl, f52, -, -, -⟩ := TmR.at' C5.out 2 8 _ 13 ⟨#[]⟩ 2 rfl rfl rfl rfl rfl rfl (by decide)
 obtain ⟨a6, A62, c62, rfl, f62, -, -, -⟩ := TmR.at0 C6.out _ 11 ⟨#[]⟩ 2 rfl rfl rfl rfl rfl
 clear C22
 go_wp2_with fail
 go_ret
 exact ⟨rfl, HB.out⟩
end Go.Proofs.YtchekgnacodolaaGreatDoor.X
end
section
namespace Go.Proofs.YtchekgnacodolaaGreatDoor.X
open Go.RowKit Go.Proofs.YtchekgnacodolaaGreatDoorW.PrintWords Go.Proofs.YtchekgnacodolaaGreatDoorW.PrintLast Go.Proofs.YtchekgnacodolaaGreatDoorW.PrintMore
set_option linter.unusedSimpArgs false
set_option linter.unusedVariables false
theorem ext_take (s : List UInt8) (n : Nat) : (B s).extract 0 (min ((B s).size : Int) (n : Int)).toNat = B (s.take n) := by
 have h : (min ((B s).size : Int) (n : Int)).toNat = min s.length n := by rw [zqM]; omega
 rw [h]
 unfold B
 apply ByteArray.ext
 simp [List.take_eq_take_min, Nat.min_comm]
theorem Told.open {w : World} {r : Tm × Int} {e : Ending} {w' : World} (h : Told w r e w') : ∃ A c, e = .returned (.tuple #[.agg #[.int .i64 r.1.f0, .string r.1.f1, .int .i64 r.1.f2, .slice A r.1.f3.length c], .int .i64 r.2]) ∧ TmR w' r.1 (.agg #[.int .i64 r.1.f0, .string r.1.f1, .int .i64 r.1.f2, .slice A r.1.f3.length c]) ∧ Below w.heap.size w w' := by
 obtain ⟨v, rfl, hv, hb⟩ := h
 have hv := hv.R
 obtain ⟨A, c, rfl, hl, hC⟩ := hv
 exact ⟨A, c, rfl, ⟨A, c, rfl, hl, hC⟩, hb⟩
abbrev tmO (t : Tm) (A : Option Addr) (c : Nat) : Obj := .cells #[.int .i64 t.f0, .string t.f1, .int .i64 t.f2, .slice A t.f3.length c] 26
theorem told_lay {w w' : World} (hb : Below w.heap.size w w') (o : Obj) : Below w.heap.size w (w'.alloc o) := hb.trans ((zqb (Below.refl w'.heap.size w') o).mono hb.size)
end Go.Proofs.YtchekgnacodolaaGreatDoor.X
end

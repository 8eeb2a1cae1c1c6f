-- Joined by our own program (wip/tools/prune.py) out of the seat's texts, less what this claim doesn't name.
import Derived.Test.YtchekgnacodolaaGreatDoorJ25
import Derived.Test.YtchekgnacodolaaGreatDoorJ26
import Derived.Test.YtchekgnacodolaaGreatDoorJ29
set_option maxHeartbeats 4000000
set_option maxRecDepth 100000
section
namespace Go.Proofs.YtchekgnacodolaaGreatDoor.X
open Go.RowKit Go.Proofs.YtchekgnacodolaaGreatDoorW.PrintWords Go.Proofs.YtchekgnacodolaaGreatDoorW.PrintLast Go.Proofs.YtchekgnacodolaaGreatDoorW.PrintMore
set_option linter.unusedSimpArgs false
set_option linter.unusedVariables false
theorem results_toksF {fn : Func} (h : fn.results = #[.cell 2 32, .tmp 3]) {tmps : Array Value} {w : World} {N : Nat} {a b c d : Value} {r : Value} (hp : tmps.getD 2 undef = .pointer (some ⟨N, 0, none⟩)) (hq : tmps.getD 3 undef = r) (h2 : Own w N #[a, b, c, d] 32) :
  (results fn tmps).run Tryz.prog w = .ok (.tuple #[.agg #[a, b, c, d], r]) w := by
 have hp' : tmps[2]?.getD undef = .pointer (some ⟨N, 0, none⟩) := by simpa using hp
 have hq' : tmps[3]?.getD undef = r := by simpa using hq
 have d0 : w.cell? ⟨N, 0, none⟩ = some a := h2.cell 0
 have d1 : w.cell? ⟨N, 1, none⟩ = some b := h2.cell 1
 have d2 : w.cell? ⟨N, 2, none⟩ = some c := h2.cell 2
 have d3 : w.cell? ⟨N, 3, none⟩ = some d := h2.cell 3
 simp [results, h, hp', hq', go_sem, d0, d1, d2, d3]
theorem ret_toksF {fn : Func} {N : Nat} {tmps : Array Value} {w : World} {a b c d r : Value} {R : Ending → World → Prop} (h : fn.results = #[.cell 2 32, .tmp 3]) (hp : tmps.getD 2 undef = .pointer (some ⟨N, 0, none⟩)) (hq : tmps.getD 3 undef = r) (h2 : Own w N #[a, b, c, d] 32) (hR : R (.returned (.tuple #[.agg #[a, b, c, d], r])) w) :
  bodyPost Tryz.prog fn R Exit.ret { tmps := tmps, defers := [] } w := bodyPost_ret (results_toksF h hp hq h2) rfl hR
def ToldF (w : World) (r : Tm × Int) (e : Ending) (w' : World) : Prop := ∃ v, e = .returned (.tuple #[v, .int .i64 r.2]) ∧ TmF w.heap.size w' (toR r.1) v ∧ Below w.heap.size w w'
theorem toldF_zero {w w1 : World} (n : Int) (hb : Below w.heap.size w w1) : ToldF w (zTm, n) (.returned (.tuple #[.agg #[.int .i64 0, .string ⟨#[]⟩, .int .i64 0, .slice none 0 0], .int .i64 n])) w1 :=
 ⟨_, rfl, TmF.leaf _ _ _ _ _, hb⟩
theorem tokC_of {w : World} {A : Option Addr} {l : List TokT} (h : Kd.C k107 w A (l.map rT).length (l.map rT)) : TokC w A l := by
 refine ⟨by have := h.2.1; rwa [List.length_map] at this, fun j x hj => ?_⟩
 obtain ⟨hlt, hx⟩ := List.getElem?_eq_some_iff.1 hj
 obtain ⟨ad, e, h0, h1, h2⟩ := at_T107 h (j : Int) (by omega) (by rw [List.length_map]; omega)
 rw [rd_rtok (l.map rT) j (by rw [List.length_map]; exact hlt), List.getElem_map, hx, Int.toNat_natCast] at *
 exact ⟨ad, e, h0, h1, h2⟩
theorem right_kind {l : List TokT} (h : l.all rightT = true) : ∀ x ∈ l, 1 ≤ x.f0 := by
 intro t ht
 have h := List.all_eq_true.1 h t ht
 unfold rightT at h
 by_cases h1 : t.f0 = 1 ∨ t.f0 = 3
 ·omega
 ·rw [if_neg h1] at h
  by_cases h2 : t.f0 = 2
  ·omega
  ·rw [if_neg h2] at h
   by_cases h4 : t.f0 = 4
   ·omega
   ·rw [if_neg h4] at h; cases h
theorem frel_cases {l : List TokT} {t : Tm} {q : FS} (h : FRel (some (t, q)) (parseL l)) : (parseL l = none ∧ q.1 = true) ∨ (parseL l = some (t, q.2) ∧ q.1 = false) := by
 unfold FRel at h
 split at h
 ·next t' s' e =>
  injection h with h
  injection h with h1 h2
  subst h1 h2
  exact .inr ⟨e, rfl⟩
 ·next e =>
  obtain ⟨t', s', h⟩ := h
  injection h with h
  injection h with h1 h2
  subst h1 h2
  exact .inl ⟨e, rfl⟩
theorem toksFC (l : List TokT) (A : Option Addr) (c : Nat) (hl : l.length ≤ 1099511627776) (w : World) (hr : ReadsR w A c (l.map rT)) :
  Calls Tryz.prog 20 #[.slice A l.length c] w fun e w' => ToldF w (toksR l) e w' := by
 have hW := zqb (Below.refl w.heap.size w) (.cells zeroF 32)
 have hr := hr.below hW
 have K1 := Lib.hid (refRightC l (by omega) A c _ hr)
 have B2 := Own.new w zeroF 32
 have HW := Lib.hid hW
 have HR := Lib.hid hr
 clear hW hr
 cases h1 : l.all rightT with
 | false =>
  have HT := Lib.hid (show toksR l = (zTm, 2) by unfold toksR; rw [if_pos h1])
  rw [h1] at K1
  clear h1
  go_enter Tryz.func20, Tryz.ntmps20
  go_wp2_with fail
  refine K1.out.mono ?_
  rintro e w1 ⟨rfl, hb⟩
  have B2 := B2.keep hb
  have HB := Lib.hid (HW.out.trans (hb.mono (by simp)))
  have d0 := B2.cell 0
  have d1 := B2.cell 1
  have d2 := B2.cell 2
  have d3 := B2.cell 3
  have dz := fun i => B2.fz i
  clear hb
  go_wp2_with fail
  refine ret_toksF rfl rfl rfl (Own.four B2) ?_
  rw [HT.out]
  exact toldF_zero _ (zqu (w3size := 0) HB.out)
 | true =>
  rw [h1] at K1
  by_cases h2 : 200 < nestL l
  ·have hd : decide (200 < nestL l) = true := by simpa using h2
   have HT := Lib.hid (show toksR l = (zTm, 1) by unfold toksR; rw [if_neg (by rw [h1]; decide), if_pos h2])
   clear h1 h2
   go_enter Tryz.func20, Tryz.ntmps20
   go_wp2_with fail
   refine K1.out.mono ?_
   rintro e w1 ⟨rfl, hb⟩
   have B2 := B2.keep hb
   have hr := HR.out.below hb
   have K2 := Lib.hid (nestFC l hl A c w1 hr)
   have HB := Lib.hid (HW.out.trans (hb.mono (by simp)))
   clear hb hr
   go_wp2_with fail
   refine K2.out.mono ?_
   rintro e w2 ⟨rfl, hb⟩
   have B2 := B2.keep hb
   have HB := Lib.hid (HB.out.trans (hb.mono HB.out.size))
   have d0 := B2.cell 0
   have d1 := B2.cell 1
   have d2 := B2.cell 2
   have d3 := B2.cell 3
   have dz := fun i => B2.fz i
   clear hb
   go_wp2_with fail
   refine ret_toksF rfl rfl rfl (Own.four B2) ?_
   rw [HT.out]
   exact toldF_zero _ (zqu (w3size := 0) HB.out)
  ·have hd : decide (200 < nestL l) = false := by simpa using h2
   have hne : (toksR l) = match parseL l with | none => (zTm, 2) | some (t, s) => if s ≠ [] then (zTm, 2) else if 200 < depthT t ∨ 10000 < sizeT t then (zTm, 1) else (t, 0) := by
    unfold toksR; rw [if_neg (by rw [h1]; decide), if_neg h2]; rcases parseL l with _ | ⟨t, s⟩ <;> rfl
   have HNE := Lib.hid hne
   have HOK := Lib.hid (right_kind h1)
   have HSZ := Lib.hid (fun t s (e : parseL l = some (t, s)) => show sizeT t ≤ 9223372036854775807 from Nat.le_trans (parse_size h1 e) (by omega))
   clear hne h1 h2
   go_enter Tryz.func20, Tryz.ntmps20
   go_wp2_with fail
   refine K1.out.mono ?_
   rintro e w1 ⟨rfl, hb⟩
   have B2 := B2.keep hb
   have hr := HR.out.below hb
   have K2 := Lib.hid (nestFC l hl A c w1 hr)
   have HB := Lib.hid (HW.out.trans (hb.mono (by simp)))
   have HR := Lib.hid hr
   clear hb hr
   go_wp2_with fail
   refine K2.out.mono ?_
   rintro e w2 ⟨rfl, hb⟩
   have B2 := B2.keep hb
   have hr := HR.out.below hb
   have hA := zqb (Below.refl w2.heap.size w2) (.cells #[.slice A l.length c, .int .i64 0, .bool false] 102)
   have HB := Lib.hid (HB.out.trans ((hb.trans (hA.mono hb.size)).mono HB.out.size))
   have hlt2 : w.heap.size < w2.heap.size := B2.lt
   have B2 := B2.alloc (.cells #[.slice A l.length c, .int .i64 0, .bool false] 102)
   have hrf : Rf w2.heap.size A c false [] l (w2.alloc (.cells #[.slice A l.length c, .int .i64 0, .bool false] 102)) := by
    refine ⟨?_, (show TokC _ A l from (tokC_of hr.1).below hA), fun h0 ad hAd => ?_, HOK.out⟩
    ·have := blk_new w2 (.cells #[.slice A l.length c, .int .i64 0, .bool false] 102)
     simpa using this
    ·have h0 : 0 < l.length := h0
     obtain ⟨ad', hA', k0, _, _⟩ := (tokC_of hr.1).2 0 (l[0]'h0) (List.getElem?_eq_getElem h0)
     rw [hAd] at hA'
     injection hA' with e
     subst e
     have := cell_lt k0
     rw [add_block] at this
     omega
   have KE := Lib.hid (rfE w2.heap.size A c [] l _ hrf)
   have H2 := Lib.hid hlt2
   clear hb hr hrf hA
   go_wp2_with fail
   refine KE.out.mono ?_
   rintro e w3 ⟨t, ⟨b, s⟩, hF, hp, v, p', rfl, hv, hpp, hrd⟩
   obtain ⟨A3, c3, rfl, hlc, hC⟩ := hv
   have hv : TmF (w2.heap.size + 1) w3 (toR t) (.agg #[.int .i64 (toR t).f0, .string (toR t).f1, .int .i64 (toR t).f2, .slice A3 (toR t).f3.length c3]) := TmF.mono ⟨A3, c3, rfl, hlc, hC⟩ (by simp)
   have HF := Lib.hid (frel_cases hF)
   generalize hx : toR t = x at *
   have HX := Lib.hid hx
   have hne1 : w.heap.size ≠ w2.heap.size := by omega
   have hsz := hp.size
   have hlt3 : w2.heap.size < w3.heap.size := hrd.lt
   have HB := Lib.hid (hp.belowNew HB.out (Nat.le_of_lt hlt2))
   have TC : Aside0 (Own (w3.alloc (.cells (cellsF x A3 c3) 32)) w3.heap.size (cellsF x A3 c3) 32) := Aside0.mk (Own.new w3 (cellsF x A3 c3) 32)
   have hv := hv.same ((Same.refl _ _).alloc (.cells (cellsF x A3 c3) 32))
   have hA3 := zqb (Below.refl w3.heap.size w3) (.cells (cellsF x A3 c3) 32)
   have HB := Lib.hid (HB.out.trans (hA3.mono HB.out.size))
   have B2 := (B2.past hp hne1).alloc (.cells (cellsF x A3 c3) 32)
   have hrd := Rf.below hrd hA3
   have hrl : (p' ++ s).length = l.length := congrArg List.length hpp
   have hrl2 : p'.length + s.length = l.length := by rw [← List.length_append]; exact hrl
   have r1 := hrd.c1
   have r2 := hrd.c2
   have HV := Lib.hid hv
   have HC := Lib.hid hC
   have H4 := Lib.hid (show w.heap.size < w3.heap.size by omega)
   clear hp hv hC hx hF hrd hA3 hpp hrl
   rcases HF.out with ⟨hpl, hb1⟩ | ⟨hpl, hb1⟩
   ·have HT := Lib.hid (show toksR l = (zTm, 2) by rw [HNE.out, hpl])
    obtain rfl : b = true := hb1
    have d0 := B2.cell 0
    have d1 := B2.cell 1
    have d2 := B2.cell 2
    have d3 := B2.cell 3
    have dz := fun i => B2.fz i
    clear hpl
    go_wp2_with fail
    refine ret_toksF rfl rfl rfl (Own.four B2) ?_
    rw [HT.out]
    exact toldF_zero _ (zqu (w3size := 0) HB.out)
   ·obtain rfl : b = false := hb1
    cases s with
    | cons y s' =>
     have HT := Lib.hid (show toksR l = (zTm, 2) by rw [HNE.out, hpl]; exact if_pos (by simp))
     have hbn : ((p'.length : Int) != (l.length : Int)) = true := by simp only [List.length_cons] at hrl2; simp; omega
     have d0 := B2.cell 0
     have d1 := B2.cell 1
     have d2 := B2.cell 2
     have d3 := B2.cell 3
     have dz := fun i => B2.fz i
     clear hpl
     go_wp2_with fail
     refine ret_toksF rfl rfl rfl (Own.four B2) ?_
     rw [HT.out]
     exact toldF_zero _ (zqu (w3size := 0) HB.out)
    | nil =>
     have hbn : ((p'.length : Int) != (l.length : Int)) = false := by simp only [List.length_nil] at hrl2; simp; omega
     have hpl : parseL l = some (t, []) := hpl
     have HT := Lib.hid (show toksR l = if 200 < depthT t ∨ 10000 < sizeT t then (zTm, 1) else (t, 0) by rw [HNE.out, hpl]; exact if_neg fun h => h rfl)
     have HSZ := Lib.hid (HSZ.out _ _ hpl)
     have hKD := depthF_eq t HSZ.out _ (Nat.le_refl _)
     have hKS := sizeF_eq t HSZ.out _ (Nat.le_refl _)
     rw [HX.out] at hKD hKS
     have KD := Lib.hid (chancelref03_Depth.calls (2 * sizeT t) x.f0 x.f1 x.f2 A3 c3 x.f3 (depthT t) _ (HC.out _ ((Same.refl _ _).alloc (.cells (cellsF x A3 c3) 32))) hlc hKD)
     have KS := Lib.hid (fun w (h : Kd.C k32 w A3 x.f3.length x.f3) => chancelref03_Size.calls (2 * sizeT t) x.f0 x.f1 x.f2 A3 c3 x.f3 (sizeT t) w h hlc hKS)
     have q0 := TC.out.cell 0
     have q1 := TC.out.cell 1
     have q2 := TC.out.cell 2
     have q3 := TC.out.cell 3
     have qz := fun i => TC.out.fz i
     clear hpl hKD hKS
     by_cases hdp : 200 < depthT t
     ·have hdd : decide (200 < (depthT t : Int)) = true := by rw [decide_eq_true_eq]; omega
      have HT := Lib.hid (HT.out.trans (if_pos (.inl hdp)))
      clear hdp
      go_wp2_with fail
      refine KD.out.mono ?_
      rintro e w4 ⟨rfl, hb⟩
      have B2 := B2.keep hb
      have HB := Lib.hid (HB.out.trans (hb.mono HB.out.size))
      have d0 := B2.cell 0
      have d1 := B2.cell 1
      have d2 := B2.cell 2
      have d3 := B2.cell 3
      have dz := fun i => B2.fz i
      clear hb
      go_wp2_with fail
      refine ret_toksF rfl rfl rfl (Own.four B2) ?_
      rw [HT.out]
      exact toldF_zero _ (zqu (w3size := 0) HB.out)
     ·have hdd : decide (200 < (depthT t : Int)) = false := by rw [decide_eq_false_iff_not]; omega
      by_cases hsz : 10000 < sizeT t
      ·have hss : decide (10000 < (sizeT t : Int)) = true := by rw [decide_eq_true_eq]; omega
       have HT := Lib.hid (HT.out.trans (if_pos (.inr hsz)))
       clear hdp hsz
       go_wp2_with fail
       refine KD.out.mono ?_
       rintro e w4 ⟨rfl, hb⟩
       have B2 := B2.keep hb
       have TC := Aside0.mk (TC.out.keep hb)
       have hv := HV.out.same (Same.of_below hb)
       have HB := Lib.hid (HB.out.trans (hb.mono HB.out.size))
       have h4 : w3.heap.size < w4.heap.size := TC.out.lt
       have q0 := TC.out.cell 0
       have q1 := TC.out.cell 1
       have q2 := TC.out.cell 2
       have q3 := TC.out.cell 3
       have qz := fun i => TC.out.fz i
       have hC4 : Kd.C k32 w4 A3 x.f3.length x.f3 := by
        obtain ⟨A4, c4, e4, hlc4, hC4⟩ := hv
        simp only [Value.agg.injEq, Array.mk.injEq, List.cons.injEq, Value.slice.injEq, true_and, and_true] at e4
        obtain ⟨rfl, rfl⟩ := e4
        exact hC4 _ (Same.refl _ _)
       have KS := Lib.hid (KS.out _ hC4)
       clear hb hC4
       clear hv
       go_wp2_with fail
       refine KS.out.mono ?_
       rintro e w5 ⟨rfl, hb⟩
       have B2 := B2.keep hb
       have HB := Lib.hid (HB.out.trans (hb.mono HB.out.size))
       have d0 := B2.cell 0
       have d1 := B2.cell 1
       have d2 := B2.cell 2
       have d3 := B2.cell 3
       have dz := fun i => B2.fz i
       clear hb
       go_wp2_with fail
       refine ret_toksF rfl rfl rfl (Own.four B2) ?_
       rw [HT.out]
       exact toldF_zero _ (zqu (w3size := 0) HB.out)
      ·have hss : decide (10000 < (sizeT t : Int)) = false := by rw [decide_eq_false_iff_not]; omega
       have HT := Lib.hid (HT.out.trans (if_neg (by omega)))
       clear hdp hsz
       go_wp2_with fail
       refine KD.out.mono ?_
       rintro e w4 ⟨rfl, hb⟩
       have B2 := B2.keep hb
       have TC := Aside0.mk (TC.out.keep hb)
       have hv := HV.out.same (Same.of_below hb)
       have HB := Lib.hid (HB.out.trans (hb.mono HB.out.size))
       have h4 : w3.heap.size < w4.heap.size := TC.out.lt
       have q0 := TC.out.cell 0
       have q1 := TC.out.cell 1
       have q2 := TC.out.cell 2
       have q3 := TC.out.cell 3
       have qz := fun i => TC.out.fz i
       have hC4 : Kd.C k32 w4 A3 x.f3.length x.f3 := by
        obtain ⟨A4, c4, e4, hlc4, hC4⟩ := hv
        simp only [Value.agg.injEq, Array.mk.injEq, List.cons.injEq, Value.slice.injEq, true_and, and_true] at e4
        obtain ⟨rfl, rfl⟩ := e4
        exact hC4 _ (Same.refl _ _)
       have KS := Lib.hid (KS.out _ hC4)
       clear hb hC4
       go_wp2_with fail
       refine KS.out.mono ?_
       rintro e w5 ⟨rfl, hb⟩
       have B2 := B2.keep hb
       have B4 := TC.out.keep hb
       have hv := hv.same (Same.of_below hb)
       have HB := Lib.hid (HB.out.trans (hb.mono HB.out.size))
       have q0 := B4.cell 0
       have q1 := B4.cell 1
       have q2 := B4.cell 2
       have q3 := B4.cell 3
       have qz := fun i => B4.fz i
       have d0 := B2.cell 0
       have d1 := B2.cell 1
       have d2 := B2.cell 2
       have d3 := B2.cell 3
       have dz := fun i => B2.fz i
       clear hb
       go_wp2_with fail
       refine ret_toksF rfl rfl rfl (Own.four B2) ?_
       rw [HT.out]
       refine ⟨_, rfl, ?_, zqu (w3size := 0) HB.out⟩
       show TmF _ _ (toR t) _
       rw [HX.out]
       exact (hv.same (zqv (Same.refl _ _) (by have := H2.out; omega))).mono (by have := H2.out; omega)
end Go.Proofs.YtchekgnacodolaaGreatDoor.X
end
section
namespace Go.Proofs.YtchekgnacodolaaGreatDoor.X
open Go.RowKit Go.Proofs.YtchekgnacodolaaGreatDoorW.PrintWords Go.Proofs.YtchekgnacodolaaGreatDoorW.PrintLast Go.Proofs.YtchekgnacodolaaGreatDoorW.PrintMore
set_option linter.unusedSimpArgs false
set_option linter.unusedVariables false
theorem parseFC (s : List UInt8) (hl : s.length ≤ 9223372036854775807) (w : World) :
  Calls Tryz.prog 23 #[.string (B s)] w fun e w' => ToldF w (parseR s) e w' := by
 have hW := zqb (Below.refl w.heap.size w) (.cells zeroF 32)
 have K1 := Lib.hid (refLexC s hl (w.alloc (.cells zeroF 32)))
 have B2 := Own.new w zeroF 32
 have HW := Lib.hid hW
 clear hW
 by_cases h1 : (lexR s).2 = 0
 ·have hb1 : ((lexR s).2 != 0) = false := by rw [h1]; rfl
  have HT := Lib.hid (show parseR s = toksR (lexR s).1 by unfold parseR; rw [if_neg (by rw [h1]; decide)])
  clear h1
  go_enter Tryz.func23, Tryz.ntmps23
  go_wp2_with fail
  refine K1.out.mono ?_
  rintro e w1 ⟨A, c, rfl, hr, hb⟩
  have B2 := B2.keep hb
  have KT := Lib.hid (toksFC (lexR s).1 A c (Nat.le_trans (lexR_short s).1 (by decide)) w1 hr)
  have HB := Lib.hid (HW.out.trans (hb.mono (by simp)))
  clear hb hr
  go_wp2_with fail
  refine KT.out.mono ?_
  rintro e w2 ⟨v, rfl, hv, hb⟩
  obtain ⟨A3, c3, rfl, hlc, hC⟩ := hv
  have hv : TmF w1.heap.size w2 (toR (toksR (lexR s).1).1) (.agg #[.int .i64 (toR (toksR (lexR s).1).1).f0, .string (toR (toksR (lexR s).1).1).f1, .int .i64 (toR (toksR (lexR s).1).1).f2, .slice A3 (toR (toksR (lexR s).1).1).f3.length c3]) := ⟨A3, c3, rfl, hlc, hC⟩
  have H2 := Lib.hid (show w.heap.size < w1.heap.size from B2.lt)
  have B2 := B2.keep hb
  have HB := Lib.hid (HB.out.trans (hb.mono HB.out.size))
  have d0 := B2.cell 0
  have d1 := B2.cell 1
  have d2 := B2.cell 2
  have d3 := B2.cell 3
  have dz := fun i => B2.fz i
  clear hb hC hlc
  go_wp2_with fail
  refine ret_toksF rfl rfl rfl (Own.four B2) ?_
  rw [HT.out]
  exact ⟨_, rfl, (hv.same (zqv (Same.refl _ _) H2.out)).mono (Nat.le_of_lt H2.out), zqu (w3size := 0) HB.out⟩
 ·have hb1 : ((lexR s).2 != 0) = true := by simpa using h1
  have HT := Lib.hid (show parseR s = (zTm, (lexR s).2) by unfold parseR; rw [if_pos h1])
  clear h1
  go_enter Tryz.func23, Tryz.ntmps23
  go_wp2_with fail
  refine K1.out.mono ?_
  rintro e w1 ⟨A, c, rfl, hr, hb⟩
  have B2 := B2.keep hb
  have HB := Lib.hid (HW.out.trans (hb.mono (by simp)))
  have d0 := B2.cell 0
  have d1 := B2.cell 1
  have d2 := B2.cell 2
  have d3 := B2.cell 3
  have dz := fun i => B2.fz i
  clear hb hr
  go_wp2_with fail
  refine ret_toksF rfl rfl rfl (Own.four B2) ?_
  rw [HT.out]
  exact toldF_zero _ (zqu (w3size := 0) HB.out)
theorem toksR_size (l : List TokT) : sizeT (toksR l).1 ≤ 10000 := by
 have hz : sizeT zTm ≤ 10000 := by decide
 unfold toksR
 split
 ·exact hz
 ·split
  ·exact hz
  ·split
   ·exact hz
   ·split
    ·exact hz
    ·split
     ·exact hz
     ·next h => simp only; omega
theorem parseR_size (s : List UInt8) : sizeT (parseR s).1 ≤ 10000 := by
 unfold parseR
 split
 ·show sizeT zTm ≤ 10000; decide
 ·exact toksR_size _
theorem ToldF.open {w : World} {r : Tm × Int} {e : Ending} {w' : World} (h : ToldF w r e w') : ∃ A c, e = .returned (.tuple #[.agg #[.int .i64 (toR r.1).f0, .string (toR r.1).f1, .int .i64 (toR r.1).f2, .slice A (toR r.1).f3.length c], .int .i64 r.2]) ∧ TmRF w' (toR r.1) (.agg #[.int .i64 (toR r.1).f0, .string (toR r.1).f1, .int .i64 (toR r.1).f2, .slice A (toR r.1).f3.length c]) ∧ Below w.heap.size w w' := by
 obtain ⟨v, rfl, hv, hb⟩ := h
 obtain ⟨A, c, rfl, hl, hC⟩ := hv.R
 exact ⟨A, c, rfl, ⟨A, c, rfl, hl, hC⟩, hb⟩
theorem refTermC (t : Tm) (hs : sizeT t ≤ 10000) (vt : Value) (w : World) (h : TmR w t vt) :
  Calls Tryz.prog 25 #[vt] w fun e w' => ∃ A c, e = .returned (.agg #[.int .i64 (toR t).f0, .string (toR t).f1, .int .i64 (toR t).f2, .slice A (toR t).f3.length c]) ∧ TmRF w' (toR t) (.agg #[.int .i64 (toR t).f0, .string (toR t).f1, .int .i64 (toR t).f2, .slice A (toR t).f3.length c]) ∧ Below w.heap.size w w' := by
 obtain ⟨A, c, rfl, hl, hC⟩ := h
 refine (chancellaw05_refTerm.calls (2 * sizeT t) t.f0 t.f1 t.f2 A c t.f3 _ _ _ _ w hC hl (refTm_eq t (by omega) _ (Nat.le_refl _))).mono ?_
 rintro e w' ⟨v, rfl, hR, hb⟩
 obtain ⟨A, c, rfl, hc, hC⟩ := Kd.R_reads hR
 exact ⟨A, c, rfl, ⟨A, c, rfl, hc, hC⟩, hb⟩
end Go.Proofs.YtchekgnacodolaaGreatDoor.X
end

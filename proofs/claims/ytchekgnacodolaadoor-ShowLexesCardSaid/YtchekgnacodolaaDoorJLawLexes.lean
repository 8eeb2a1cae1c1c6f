/- ShowLexes: what is shown of a right term are right tokens, and its text's tokens are these. -/
import Derived.Test.YtchekgnacodolaaDoorJ7
import Derived.Test.YtchekgnacodolaaDoorJ20
namespace Go.Proofs.YtchekgnacodolaaDoor.X
open Go.RowKit Go.Proofs.YtchekgnacodolaaDoorW.PrintWords Go.Proofs.YtchekgnacodolaaDoorW.PrintLast Go.Proofs.YtchekgnacodolaaDoorW.PrintMore
set_option linter.unusedSimpArgs false
set_option linter.unusedVariables false
attribute [local go_sem high] eqA37
theorem lexS (t : Tm) (h : Small 6 t) (w : World) (hG : GP w) :
    Calls Tryd.prog 7 #[.string (B (printL (toksT t)))] w fun e w' => ∃ A c, e = .returned (.tuple #[.slice A (toksT t).length c, .int .i64 0]) ∧ Reads w' A c (toksT t) ∧ Below w.heap.size w w' := by
  have hp := print_len (small_right h)
  have e1 : bigM 6 = 14207 := rfl
  have hw := small_W h
  have := lexC (printL (toksT t)) (by omega) w hG.g
  rw [lexR_print (toks_right t h.nodes) (by omega)] at this
  refine this.mono ?_
  rintro e w' ⟨A, c, rfl, hr, -, hb⟩
  exact ⟨A, c, rfl, hr, hb⟩
theorem tok_at {w : World} {A : Option Addr} {c : Nat} {l : List TokT} (h : Reads w A c l) (i : Nat) (hi : i < l.length) : ∃ ad, A = some ad ∧ w.cell? (ad.add (i * 3)) = some (.int .i64 l[i].f0) ∧ w.cell? ⟨(ad.add (i * 3)).block, (ad.add (i * 3)).off + 1, none⟩ = some (.string l[i].f1) ∧ w.cell? ⟨(ad.add (i * 3)).block, (ad.add (i * 3)).off + 2, none⟩ = some (.int .i64 l[i].f2) := by
  obtain ⟨ad, e, h0, h1, h2⟩ := at_T37 h.1 (i : Int) (by omega) (by omega)
  have hr : rd_T37 l (i : Int) = l[i] := by
    unfold rd_T37
    rw [Int.toNat_natCast, List.getD_eq_getElem?_getD, List.getElem?_eq_getElem hi]; rfl
  rw [hr] at h0 h1 h2
  rw [Int.toNat_natCast] at h0 h1 h2
  exact ⟨ad, e, h0, h1, h2⟩
set_option maxRecDepth 100000 in
set_option maxHeartbeats 8000000 in
theorem lawLexes (w : World) (hG : GP w) (A : Option Addr) (c : Nat) (l : List Int) (hr : Kd.C (Kd.int .u8) w A l.length l) (hc : l.length ≤ c) (hm : l.length ≤ maxLen) (hy : l.length ≤ 140737488351232) (hw : ∀ x ∈ l, (Lit.int .u8 x).wf = true) :
    Calls Tryd.prog 3 #[.slice A l.length c] w fun e w' => e = .returned (.bool true) ∧ Below w.heap.size w w' := by
  obtain ⟨bs, hbl, hrb⟩ := bytes_of hr hw
  rw [← hbl] at hc hy ⊢
  have R := Lib.hid hrb
  obtain ⟨t, ht⟩ : ∃ t, madeT bs = t := ⟨_, rfl⟩
  have hsm : Small 6 t := ht ▸ madeT_small bs
  have hrt := small_right hsm
  have hmax : bs.length ≤ 9223372036854775807 := by omega
  clear hr hw hrb hm hbl
  have HG := Lib.hid hG
  have HB := Lib.hid (Below.refl w.heap.size w)
  have K := Lib.hid (exam4C w hG)
  clear hG
  have hts := toks_small hrt
  have hne := small_ne hsm
  have HF := Lib.hid (And.intro ht (And.intro hsm (And.intro hrt (And.intro hc (And.intro hmax (And.intro hts hne))))))
  clear ht hsm hrt hmax hts hne hy
  go_enter Tryd.func3, Tryd.ntmps3
  go_wp2_with fail
  refine K.out.mono ?_
  rintro e w1 ⟨rfl, hb⟩
  clear K
  have hmv := hb
  have HG := Lib.hid (HG.out.below hmv)
  have HB := Lib.hid (HB.out.trans (hmv.mono HB.out.size))
  have R := Lib.hid (R.out.below hmv)
  clear hmv
  clear hb
  have K := Lib.hid (madeS A c bs t HF.out.1 w1 R.out HF.out.2.2.2.1 HF.out.2.2.2.2.1)
  go_wp2_with fail
  refine K.out.mono ?_
  rintro e w2 ⟨A2, c2, rfl, hv, hb⟩
  clear K
  have hmv := hb
  have HG := Lib.hid (HG.out.below hmv)
  have HB := Lib.hid (HB.out.trans (hmv.mono HB.out.size))
  have R := Lib.hid (R.out.below hmv)
  clear hmv
  clear hb
  have hA := below_alloc (Below.refl w2.heap.size w2) (.cells (tmA t A2 c2) 26)
  have Vt := Lib.hid hv
  have On := Own.new w2 (tmA t A2 c2) 26
  clear hv
  have Ot := Lib.hid On
  have hmv := hA
  have HG := Lib.hid (HG.out.below hmv)
  have HB := Lib.hid (HB.out.trans (hmv.mono HB.out.size))
  have R := Lib.hid (R.out.below hmv)
  clear hmv
  have Vt := Lib.hid (Vt.out.below hA)
  clear hA On
  have K := Lib.hid (showToksR t HF.out.2.2.1 _ _ Vt.out HG.out)
  have ct0 := Ot.out.cell 0
  have ct1 := Ot.out.cell 1
  have ct2 := Ot.out.cell 2
  have ct3 := Ot.out.cell 3
  go_wp2_with fail
  clear ct0 ct1 ct2 ct3
  refine K.out.mono ?_
  rintro e w3 ⟨A3, c3, rfl, hr3, hb⟩
  clear K
  have La := Lib.hid hr3
  clear hr3
  have hmv := hb
  have HG := Lib.hid (HG.out.below hmv)
  have HB := Lib.hid (HB.out.trans (hmv.mono HB.out.size))
  have Vt := Lib.hid (Vt.out.below hmv)
  have Ot := Lib.hid (show Own _ _ _ _ from blk_below Ot.out hmv)
  have R := Lib.hid (R.out.below hmv)
  clear hmv
  clear hb
  have K := Lib.hid (showR t HF.out.2.2.1 _ _ Vt.out HG.out)
  have ct0 := Ot.out.cell 0
  have ct1 := Ot.out.cell 1
  have ct2 := Ot.out.cell 2
  have ct3 := Ot.out.cell 3
  go_wp2_with fail
  clear ct0 ct1 ct2 ct3
  refine K.out.mono ?_
  rintro e w4 ⟨rfl, hb⟩
  clear K
  have hmv := hb
  have HG := Lib.hid (HG.out.below hmv)
  have HB := Lib.hid (HB.out.trans (hmv.mono HB.out.size))
  have Vt := Lib.hid (Vt.out.below hmv)
  have Ot := Lib.hid (show Own _ _ _ _ from blk_below Ot.out hmv)
  have R := Lib.hid (R.out.below hmv)
  have La := Lib.hid (La.out.below hmv)
  clear hmv
  clear hb
  have K := Lib.hid (lexS t HF.out.2.1 _ HG.out)
  go_wp2_with fail
  refine K.out.mono ?_
  rintro e w5 ⟨A4, c4, rfl, hr4, hb⟩
  clear K
  have Lb := Lib.hid hr4
  clear hr4
  have hmv := hb
  have HG := Lib.hid (HG.out.below hmv)
  have HB := Lib.hid (HB.out.trans (hmv.mono HB.out.size))
  have Vt := Lib.hid (Vt.out.below hmv)
  have Ot := Lib.hid (show Own _ _ _ _ from blk_below Ot.out hmv)
  have R := Lib.hid (R.out.below hmv)
  have La := Lib.hid (La.out.below hmv)
  clear hmv
  clear hb
  have K := Lib.hid (rightR t HF.out.2.2.1 _ _ Vt.out HG.out)
  have ct0 := Ot.out.cell 0
  have ct1 := Ot.out.cell 1
  have ct2 := Ot.out.cell 2
  have ct3 := Ot.out.cell 3
  go_wp2_with fail
  clear ct0 ct1 ct2 ct3
  refine K.out.mono ?_
  rintro e w6 ⟨rfl, hb⟩
  clear K
  have hmv := hb
  have HG := Lib.hid (HG.out.below hmv)
  have HB := Lib.hid (HB.out.trans (hmv.mono HB.out.size))
  have Vt := Lib.hid (Vt.out.below hmv)
  have Ot := Lib.hid (show Own _ _ _ _ from blk_below Ot.out hmv)
  have R := Lib.hid (R.out.below hmv)
  have La := Lib.hid (La.out.below hmv)
  have Lb := Lib.hid (Lb.out.below hmv)
  clear hmv
  clear hb
  obtain ⟨u, hu⟩ : ∃ u, toksT t = u := ⟨_, rfl⟩
  have hlr := toks_right t HF.out.2.1.nodes
  have hne := HF.out.2.2.2.2.2.2
  have hul := HF.out.2.2.2.2.2.1.1
  rw [hu] at La Lb hlr hne hul ⊢
  clear hu
  have hlp := List.length_pos_iff.2 hne
  have hl0 : ((u.length : Int) == 0) = false := by rw [beq_eq_false_iff_ne]; omega
  have K := Lib.hid (lexRightG u _ rfl hlr A3 c3 _ La.out HG.out)
  go_wp2_with fail
  refine K.out.mono ?_
  rintro e w7 ⟨rfl, hb⟩
  clear K
  have hmv := hb
  have HG := Lib.hid (HG.out.below hmv)
  have HB := Lib.hid (HB.out.trans (hmv.mono HB.out.size))
  have Vt := Lib.hid (Vt.out.below hmv)
  have Ot := Lib.hid (show Own _ _ _ _ from blk_below Ot.out hmv)
  have R := Lib.hid (R.out.below hmv)
  have La := Lib.hid (La.out.below hmv)
  have Lb := Lib.hid (Lb.out.below hmv)
  clear hmv
  clear hb
  go_wp2_with fail
  go_loopg [8] u.length (fun gk v8 wr => ∃ i : Nat, v8 = .int .i64 i ∧ i ≤ u.length ∧ gk = u.length - i ∧ Aside0 (Below w7.heap.size w7 wr))
  case atStart => exact ⟨0, rfl, Nat.zero_le _, rfl, ⟨Below.refl _ _⟩⟩
  case round =>
    obtain ⟨i, rfl, hi, hgk, HW⟩ := hrel
    by_cases hlt : i < u.length
    · have hdd : decide ((i : Int) < (u.length : Int)) = true := by rw [decide_eq_true_eq]; omega
      have hd0 : decide (0 ≤ (i : Int)) = true := by rw [decide_eq_true_eq]; omega
      obtain ⟨ad, rfl, a0, a1, a2⟩ := tok_at (La.out.below HW.out) i hlt
      obtain ⟨bd, rfl, b0, b1, b2⟩ := tok_at (Lb.out.below HW.out) i hlt
      generalize u[i] = x at *
      go_wp2_with fail
      go_quiet (fail)
      go_wp2_with fail
      go_roundg (u.length - (i + 1))
      case measure => omega
      case rel => exact ⟨i + 1, by go_num, by omega, rfl, ⟨pw_below_drewN HW.out _⟩⟩
    · have hdd : decide ((i : Int) < (u.length : Int)) = false := by rw [decide_eq_false_iff_not]; omega
      go_wp2_with fail
      go_ret
      exact ⟨rfl, HB.out.trans (HW.out.mono HB.out.size)⟩
end Go.Proofs.YtchekgnacodolaaDoor.X

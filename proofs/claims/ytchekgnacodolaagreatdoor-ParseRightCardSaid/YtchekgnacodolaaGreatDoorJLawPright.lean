/- ParseRight: what is parsed is right, and what is shown of it is parsed as it again; with an error there is none. -/
import Derived.Test.YtchekgnacodolaaGreatDoorJ24
namespace Go.Proofs.YtchekgnacodolaaGreatDoor.X
open Go.RowKit Go.Proofs.YtchekgnacodolaaGreatDoorW.PrintWords Go.Proofs.YtchekgnacodolaaGreatDoorW.PrintLast Go.Proofs.YtchekgnacodolaaGreatDoorW.PrintMore
set_option linter.unusedSimpArgs false
set_option linter.unusedVariables false
theorem ext_take (s : List UInt8) (n : Nat) : (B s).extract 0 (min ((B s).size : Int) (n : Int)).toNat = B (s.take n) := by
  have h : (min ((B s).size : Int) (n : Int)).toNat = min s.length n := by rw [B_size]; omega
  rw [h]
  unfold B
  apply ByteArray.ext
  simp [List.take_eq_take_min, Nat.min_comm]
theorem right_show {s : List UInt8} {t : Tm} (h : rightTm t = true) (hw : W (toksT t) ≤ 8 * s.length) (hl : s.length ≤ 3000) : parseR (printL (toksT t)) = (t, 0) := parseR_show t h (by omega)
set_option maxRecDepth 100000 in
set_option maxHeartbeats 8000000 in
theorem lawPright (w : World) (hG : GP w) (s : List UInt8) (hl : s.length ≤ 9223372036854775807) :
    Calls Tryz.prog 6 #[.string (B s)] w fun e w' => e = .returned (.bool true) ∧ Below w.heap.size w w' := by
  have hu := ext_take s 3000
  have hul : (s.take 3000).length ≤ 3000 := by rw [List.length_take]; omega
  obtain ⟨u, hu'⟩ : ∃ u, s.take 3000 = u := ⟨_, rfl⟩
  rw [hu'] at hu hul
  simp only [Int.cast_ofNat_Int] at hu
  have HU := Lib.hid hul
  clear hu' hul hl
  have HG := Lib.hid hG
  have HB := Lib.hid (Below.refl w.heap.size w)
  have K := Lib.hid (exam5C w hG.g)
  clear hG
  go_enter Tryz.func6, Tryz.ntmps6
  go_wp2_with fail
  refine K.out.mono ?_
  rintro e w1 ⟨rfl, hb⟩
  clear K
  have hmv := hb
  have HG := Lib.hid (HG.out.below hmv)
  have HB := Lib.hid (HB.out.trans (hmv.mono HB.out.size))
  clear hmv
  clear hb
  rcases parseR_cases u with ⟨n, hn, h12⟩ | ⟨t, ht, hrt, hwt, -, -⟩
  · skip
    have K := Lib.hid (parseS u (by have := HU.out; omega) zTm n hn _ HG.out)
    go_wp2_with fail
    refine K.out.mono ?_
    rintro e w2 ⟨A2, c2, rfl, hv, hb⟩
    clear K
    have hmv := hb
    have HG := Lib.hid (HG.out.below hmv)
    have HB := Lib.hid (HB.out.trans (hmv.mono HB.out.size))
    clear hmv
    clear hb
    clear hn
    have hA := below_alloc (Below.refl w2.heap.size w2) (.cells (tmA zTm A2 c2) 26)
    have Vt := Lib.hid hv
    have On := Own.new w2 (tmA zTm A2 c2) 26
    clear hv
    have Ot := Lib.hid On
    have hmv := hA
    have HG := Lib.hid (HG.out.below hmv)
    have HB := Lib.hid (HB.out.trans (hmv.mono HB.out.size))
    clear hmv
    have Vt := Lib.hid (Vt.out.below hA)
    clear hA On
    have hz := Lib.hid (fun W => (⟨none, 0, rfl, Nat.le_refl _, C_nil W⟩ : TmR W zTm (.agg #[.int .i64 0, .string ⟨#[]⟩, .int .i64 0, .slice none 0 0])))
    rcases h12 with rfl | rfl
    · skip
      have K := Lib.hid (sameS zTm _ _ _ Vt.out (hz.out _))
      have ct0 := Ot.out.cell 0
      have ct1 := Ot.out.cell 1
      have ct2 := Ot.out.cell 2
      have ct3 := Ot.out.cell 3
      go_wp2_with fail
      clear ct0 ct1 ct2 ct3
      refine K.out.mono ?_
      rintro e w3 ⟨rfl, hb⟩
      clear K
      have hmv := hb
      have HG := Lib.hid (HG.out.below hmv)
      have HB := Lib.hid (HB.out.trans (hmv.mono HB.out.size))
      have Vt := Lib.hid (Vt.out.below hmv)
      have Ot := Lib.hid (show Own _ _ _ _ from blk_below Ot.out hmv)
      clear hmv
      clear hb
      go_wp2_with fail
      go_ret
      exact ⟨rfl, HB.out⟩
    · skip
      have K := Lib.hid (sameS zTm _ _ _ Vt.out (hz.out _))
      have ct0 := Ot.out.cell 0
      have ct1 := Ot.out.cell 1
      have ct2 := Ot.out.cell 2
      have ct3 := Ot.out.cell 3
      go_wp2_with fail
      clear ct0 ct1 ct2 ct3
      refine K.out.mono ?_
      rintro e w3 ⟨rfl, hb⟩
      clear K
      have hmv := hb
      have HG := Lib.hid (HG.out.below hmv)
      have HB := Lib.hid (HB.out.trans (hmv.mono HB.out.size))
      have Vt := Lib.hid (Vt.out.below hmv)
      have Ot := Lib.hid (show Own _ _ _ _ from blk_below Ot.out hmv)
      clear hmv
      clear hb
      go_wp2_with fail
      go_ret
      exact ⟨rfl, HB.out⟩
  · skip
    have HF := Lib.hid (And.intro hrt (And.intro (right_show hrt hwt HU.out) (print_len hrt)))
    clear hwt hrt
    have K := Lib.hid (parseS u (by have := HU.out; omega) t 0 ht _ HG.out)
    go_wp2_with fail
    refine K.out.mono ?_
    rintro e w2 ⟨A2, c2, rfl, hv, hb⟩
    clear K
    have hmv := hb
    have HG := Lib.hid (HG.out.below hmv)
    have HB := Lib.hid (HB.out.trans (hmv.mono HB.out.size))
    clear hmv
    clear hb
    clear ht
    have hA := below_alloc (Below.refl w2.heap.size w2) (.cells (tmA t A2 c2) 26)
    have Vt := Lib.hid hv
    have On := Own.new w2 (tmA t A2 c2) 26
    clear hv
    have Ot := Lib.hid On
    have hmv := hA
    have HG := Lib.hid (HG.out.below hmv)
    have HB := Lib.hid (HB.out.trans (hmv.mono HB.out.size))
    clear hmv
    have Vt := Lib.hid (Vt.out.below hA)
    clear hA On
    have K := Lib.hid (showR t HF.out.1 _ _ Vt.out HG.out)
    have ct0 := Ot.out.cell 0
    have ct1 := Ot.out.cell 1
    have ct2 := Ot.out.cell 2
    have ct3 := Ot.out.cell 3
    go_wp2_with fail
    clear ct0 ct1 ct2 ct3
    refine K.out.mono ?_
    rintro e w3 ⟨rfl, hb⟩
    clear K
    have hmv := hb
    have HG := Lib.hid (HG.out.below hmv)
    have HB := Lib.hid (HB.out.trans (hmv.mono HB.out.size))
    have Vt := Lib.hid (Vt.out.below hmv)
    have Ot := Lib.hid (show Own _ _ _ _ from blk_below Ot.out hmv)
    clear hmv
    clear hb
    have K := Lib.hid (parseS (printL (toksT t)) (by have := HF.out.2.2; omega) t 0 HF.out.2.1 _ HG.out)
    go_wp2_with fail
    refine K.out.mono ?_
    rintro e w4 ⟨A3, c3, rfl, hv, hb⟩
    clear K
    have hmv := hb
    have HG := Lib.hid (HG.out.below hmv)
    have HB := Lib.hid (HB.out.trans (hmv.mono HB.out.size))
    have Vt := Lib.hid (Vt.out.below hmv)
    have Ot := Lib.hid (show Own _ _ _ _ from blk_below Ot.out hmv)
    clear hmv
    clear hb
    have hA := below_alloc (Below.refl w4.heap.size w4) (.cells (tmA t A3 c3) 26)
    have Vu := Lib.hid hv
    have On := Own.new w4 (tmA t A3 c3) 26
    clear hv
    have Ou := Lib.hid On
    have hmv := hA
    have HG := Lib.hid (HG.out.below hmv)
    have HB := Lib.hid (HB.out.trans (hmv.mono HB.out.size))
    have Vt := Lib.hid (Vt.out.below hmv)
    have Ot := Lib.hid (show Own _ _ _ _ from blk_below Ot.out hmv)
    clear hmv
    have Vu := Lib.hid (Vu.out.below hA)
    clear hA On
    have K := Lib.hid (rightR t HF.out.1 _ _ Vt.out HG.out)
    have ct0 := Ot.out.cell 0
    have ct1 := Ot.out.cell 1
    have ct2 := Ot.out.cell 2
    have ct3 := Ot.out.cell 3
    go_wp2_with fail
    clear ct0 ct1 ct2 ct3
    refine K.out.mono ?_
    rintro e w5 ⟨rfl, hb⟩
    clear K
    have hmv := hb
    have HG := Lib.hid (HG.out.below hmv)
    have HB := Lib.hid (HB.out.trans (hmv.mono HB.out.size))
    have Vt := Lib.hid (Vt.out.below hmv)
    have Ot := Lib.hid (show Own _ _ _ _ from blk_below Ot.out hmv)
    have Vu := Lib.hid (Vu.out.below hmv)
    have Ou := Lib.hid (show Own _ _ _ _ from blk_below Ou.out hmv)
    clear hmv
    clear hb
    have K := Lib.hid (sameS t _ _ _ Vu.out Vt.out)
    have cu0 := Ou.out.cell 0
    have cu1 := Ou.out.cell 1
    have cu2 := Ou.out.cell 2
    have cu3 := Ou.out.cell 3
    have ct0 := Ot.out.cell 0
    have ct1 := Ot.out.cell 1
    have ct2 := Ot.out.cell 2
    have ct3 := Ot.out.cell 3
    go_wp2_with fail
    clear cu0 cu1 cu2 cu3
    clear ct0 ct1 ct2 ct3
    refine K.out.mono ?_
    rintro e w6 ⟨rfl, hb⟩
    clear K
    have hmv := hb
    have HG := Lib.hid (HG.out.below hmv)
    have HB := Lib.hid (HB.out.trans (hmv.mono HB.out.size))
    have Vt := Lib.hid (Vt.out.below hmv)
    have Ot := Lib.hid (show Own _ _ _ _ from blk_below Ot.out hmv)
    have Vu := Lib.hid (Vu.out.below hmv)
    have Ou := Lib.hid (show Own _ _ _ _ from blk_below Ou.out hmv)
    clear hmv
    clear hb
    go_wp2_with fail
    go_ret
    exact ⟨rfl, HB.out⟩
end Go.Proofs.YtchekgnacodolaaGreatDoor.X

/- ParseBack: what is shown of a right term is parsed as it, as a text, and as its tokens. -/
import Derived.Test.YtchekgnacodolaaGreatDoorJ24
namespace Go.Proofs.YtchekgnacodolaaGreatDoor.X
open Go.RowKit Go.Proofs.YtchekgnacodolaaGreatDoorW.PrintWords Go.Proofs.YtchekgnacodolaaGreatDoorW.PrintLast Go.Proofs.YtchekgnacodolaaGreatDoorW.PrintMore
set_option linter.unusedSimpArgs false
set_option linter.unusedVariables false
set_option maxRecDepth 100000 in
set_option maxHeartbeats 8000000 in
theorem lawPback (w : World) (hG : GP w) (A : Option Addr) (c : Nat) (l : List Int) (hr : Kd.C (Kd.int .u8) w A l.length l) (hc : l.length ≤ c) (hm : l.length ≤ maxLen) (hy : l.length ≤ 140737488351232) (hw : ∀ x ∈ l, (Lit.int .u8 x).wf = true) :
    Calls Tryz.prog 10 #[.slice A l.length c] w fun e w' => e = .returned (.bool true) ∧ Below w.heap.size w w' := by
  obtain ⟨bs, hbl, hrb⟩ := bytes_of hr hw
  rw [← hbl] at hc hy ⊢
  have R := Lib.hid hrb
  obtain ⟨t, ht⟩ : ∃ t, madeT bs = t := ⟨_, rfl⟩
  have hsm : Small 6 t := ht ▸ madeT_small bs
  have hrt := small_right hsm
  have hmax : bs.length ≤ 9223372036854775807 := by omega
  clear hr hw hrb hm hbl
  have HG := Lib.hid hG
  have HB := Lib.hid (Below.refl w.heap.size w)
  have K := Lib.hid (exam5C w hG.g)
  clear hG
  have hp := print_len hrt
  have hts := toks_small hrt
  have HTB := Lib.hid (toksR_back t hrt)
  have HF := Lib.hid (And.intro ht (And.intro hsm (And.intro hrt (And.intro hc (And.intro hmax (And.intro hp hts))))))
  clear ht hsm hrt hmax hp hts hy
  go_enter Tryz.func10, Tryz.ntmps10
  go_wp2_with fail
  refine K.out.mono ?_
  rintro e w1 ⟨rfl, hb⟩
  clear K
  have hmv := hb
  have HG := Lib.hid (HG.out.below hmv)
  have HB := Lib.hid (HB.out.trans (hmv.mono HB.out.size))
  have R := Lib.hid (R.out.below hmv)
  clear hmv
  clear hb
  have K := Lib.hid (madeS A c bs t HF.out.1 w1 R.out HF.out.2.2.2.1 HF.out.2.2.2.2.1)
  go_wp2_with fail
  refine K.out.mono ?_
  rintro e w2 ⟨A2, c2, rfl, hv, hb⟩
  clear K
  have hmv := hb
  have HG := Lib.hid (HG.out.below hmv)
  have HB := Lib.hid (HB.out.trans (hmv.mono HB.out.size))
  have R := Lib.hid (R.out.below hmv)
  clear hmv
  clear hb
  have hA := below_alloc (Below.refl w2.heap.size w2) (.cells (tmA t A2 c2) 26)
  have Vt := Lib.hid hv
  have On := Own.new w2 (tmA t A2 c2) 26
  clear hv
  have Ot := Lib.hid On
  have hmv := hA
  have HG := Lib.hid (HG.out.below hmv)
  have HB := Lib.hid (HB.out.trans (hmv.mono HB.out.size))
  have R := Lib.hid (R.out.below hmv)
  clear hmv
  have Vt := Lib.hid (Vt.out.below hA)
  clear hA On
  have K := Lib.hid (showR t HF.out.2.2.1 _ _ Vt.out HG.out)
  have ct0 := Ot.out.cell 0
  have ct1 := Ot.out.cell 1
  have ct2 := Ot.out.cell 2
  have ct3 := Ot.out.cell 3
  go_wp2_with fail
  clear ct0 ct1 ct2 ct3
  refine K.out.mono ?_
  rintro e w3 ⟨rfl, hb⟩
  clear K
  have hmv := hb
  have HG := Lib.hid (HG.out.below hmv)
  have HB := Lib.hid (HB.out.trans (hmv.mono HB.out.size))
  have Vt := Lib.hid (Vt.out.below hmv)
  have Ot := Lib.hid (show Own _ _ _ _ from blk_below Ot.out hmv)
  have R := Lib.hid (R.out.below hmv)
  clear hmv
  clear hb
  have K := Lib.hid (parseS (printL (toksT t)) (by have := HF.out.2.2.2.2.2.1; omega) t 0 (back_parse HF.out.2.1) _ HG.out)
  go_wp2_with fail
  refine K.out.mono ?_
  rintro e w4 ⟨A3, c3, rfl, hv, hb⟩
  clear K
  have hmv := hb
  have HG := Lib.hid (HG.out.below hmv)
  have HB := Lib.hid (HB.out.trans (hmv.mono HB.out.size))
  have Vt := Lib.hid (Vt.out.below hmv)
  have Ot := Lib.hid (show Own _ _ _ _ from blk_below Ot.out hmv)
  have R := Lib.hid (R.out.below hmv)
  clear hmv
  clear hb
  have hA := below_alloc (Below.refl w4.heap.size w4) (.cells (tmA t A3 c3) 26)
  have Va := Lib.hid hv
  have On := Own.new w4 (tmA t A3 c3) 26
  clear hv
  have Oa := Lib.hid On
  have hmv := hA
  have HG := Lib.hid (HG.out.below hmv)
  have HB := Lib.hid (HB.out.trans (hmv.mono HB.out.size))
  have Vt := Lib.hid (Vt.out.below hmv)
  have Ot := Lib.hid (show Own _ _ _ _ from blk_below Ot.out hmv)
  have R := Lib.hid (R.out.below hmv)
  clear hmv
  have Va := Lib.hid (Va.out.below hA)
  clear hA On
  have K := Lib.hid (showToksR t HF.out.2.2.1 _ _ Vt.out HG.out)
  have ct0 := Ot.out.cell 0
  have ct1 := Ot.out.cell 1
  have ct2 := Ot.out.cell 2
  have ct3 := Ot.out.cell 3
  go_wp2_with fail
  clear ct0 ct1 ct2 ct3
  refine K.out.mono ?_
  rintro e w5 ⟨A4, c4, rfl, hr4, hb⟩
  clear K
  have L4 := Lib.hid hr4
  clear hr4
  have hmv := hb
  have HG := Lib.hid (HG.out.below hmv)
  have HB := Lib.hid (HB.out.trans (hmv.mono HB.out.size))
  have Vt := Lib.hid (Vt.out.below hmv)
  have Ot := Lib.hid (show Own _ _ _ _ from blk_below Ot.out hmv)
  have Va := Lib.hid (Va.out.below hmv)
  have Oa := Lib.hid (show Own _ _ _ _ from blk_below Oa.out hmv)
  have R := Lib.hid (R.out.below hmv)
  clear hmv
  clear hb
  have L4 := L4
  have K := Lib.hid (toksS_ (toksT t) A4 c4 (by have := HF.out.2.2.2.2.2.2.1; omega) HF.out.2.2.2.2.2.2.2 t 0 HTB.out _ HG.out L4.out)
  go_wp2_with fail
  refine K.out.mono ?_
  rintro e w6 ⟨A5, c5, rfl, hv, hb⟩
  clear K
  have hmv := hb
  have HG := Lib.hid (HG.out.below hmv)
  have HB := Lib.hid (HB.out.trans (hmv.mono HB.out.size))
  have Vt := Lib.hid (Vt.out.below hmv)
  have Ot := Lib.hid (show Own _ _ _ _ from blk_below Ot.out hmv)
  have Va := Lib.hid (Va.out.below hmv)
  have Oa := Lib.hid (show Own _ _ _ _ from blk_below Oa.out hmv)
  have R := Lib.hid (R.out.below hmv)
  clear hmv
  clear hb
  have hA := below_alloc (Below.refl w6.heap.size w6) (.cells (tmA t A5 c5) 26)
  have Vb := Lib.hid hv
  have On := Own.new w6 (tmA t A5 c5) 26
  clear hv
  have Ob := Lib.hid On
  have hmv := hA
  have HG := Lib.hid (HG.out.below hmv)
  have HB := Lib.hid (HB.out.trans (hmv.mono HB.out.size))
  have Vt := Lib.hid (Vt.out.below hmv)
  have Ot := Lib.hid (show Own _ _ _ _ from blk_below Ot.out hmv)
  have Va := Lib.hid (Va.out.below hmv)
  have Oa := Lib.hid (show Own _ _ _ _ from blk_below Oa.out hmv)
  have R := Lib.hid (R.out.below hmv)
  clear hmv
  have Vb := Lib.hid (Vb.out.below hA)
  clear hA On
  have K := Lib.hid (sameS t _ _ _ Va.out Vt.out)
  have ca0 := Oa.out.cell 0
  have ca1 := Oa.out.cell 1
  have ca2 := Oa.out.cell 2
  have ca3 := Oa.out.cell 3
  have ct0 := Ot.out.cell 0
  have ct1 := Ot.out.cell 1
  have ct2 := Ot.out.cell 2
  have ct3 := Ot.out.cell 3
  go_wp2_with fail
  clear ca0 ca1 ca2 ca3
  clear ct0 ct1 ct2 ct3
  refine K.out.mono ?_
  rintro e w7 ⟨rfl, hb⟩
  clear K
  have hmv := hb
  have HG := Lib.hid (HG.out.below hmv)
  have HB := Lib.hid (HB.out.trans (hmv.mono HB.out.size))
  have Vt := Lib.hid (Vt.out.below hmv)
  have Ot := Lib.hid (show Own _ _ _ _ from blk_below Ot.out hmv)
  have Va := Lib.hid (Va.out.below hmv)
  have Oa := Lib.hid (show Own _ _ _ _ from blk_below Oa.out hmv)
  have Vb := Lib.hid (Vb.out.below hmv)
  have Ob := Lib.hid (show Own _ _ _ _ from blk_below Ob.out hmv)
  have R := Lib.hid (R.out.below hmv)
  clear hmv
  clear hb
  have K := Lib.hid (sameS t _ _ _ Vb.out Vt.out)
  have cb0 := Ob.out.cell 0
  have cb1 := Ob.out.cell 1
  have cb2 := Ob.out.cell 2
  have cb3 := Ob.out.cell 3
  have ct0 := Ot.out.cell 0
  have ct1 := Ot.out.cell 1
  have ct2 := Ot.out.cell 2
  have ct3 := Ot.out.cell 3
  go_wp2_with fail
  clear cb0 cb1 cb2 cb3
  clear ct0 ct1 ct2 ct3
  refine K.out.mono ?_
  rintro e w8 ⟨rfl, hb⟩
  clear K
  have hmv := hb
  have HG := Lib.hid (HG.out.below hmv)
  have HB := Lib.hid (HB.out.trans (hmv.mono HB.out.size))
  have Vt := Lib.hid (Vt.out.below hmv)
  have Ot := Lib.hid (show Own _ _ _ _ from blk_below Ot.out hmv)
  have Va := Lib.hid (Va.out.below hmv)
  have Oa := Lib.hid (show Own _ _ _ _ from blk_below Oa.out hmv)
  have Vb := Lib.hid (Vb.out.below hmv)
  have Ob := Lib.hid (show Own _ _ _ _ from blk_below Ob.out hmv)
  have R := Lib.hid (R.out.below hmv)
  clear hmv
  clear hb
  go_wp2_with fail
  go_ret
  exact ⟨rfl, HB.out⟩
end Go.Proofs.YtchekgnacodolaaGreatDoor.X

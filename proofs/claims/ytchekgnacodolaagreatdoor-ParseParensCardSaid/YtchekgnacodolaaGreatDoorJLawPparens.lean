/- ParseParens: parentheses round a text turn nothing, if they may be nested so; more of them round nothing, or one alone, are none. -/
import Derived.Test.YtchekgnacodolaaGreatDoorJ24
namespace Go.Proofs.YtchekgnacodolaaGreatDoor.X
open Go.RowKit Go.Proofs.YtchekgnacodolaaGreatDoorW.PrintWords Go.Proofs.YtchekgnacodolaaGreatDoorW.PrintLast Go.Proofs.YtchekgnacodolaaGreatDoorW.PrintMore
set_option linter.unusedSimpArgs false
set_option linter.unusedVariables false
theorem join3 (q : List UInt8) : (⟨#[40, 32]⟩ : ByteArray) ++ B q ++ ⟨#[32, 41]⟩ = B ([40, 32] ++ q ++ [32, 41]) := by
  rw [show (⟨#[40, 32]⟩ : ByteArray) = B [40, 32] from rfl, show (⟨#[32, 41]⟩ : ByteArray) = B [32, 41] from rfl, B_append, B_append]
theorem join2 (q : List UInt8) : (⟨#[40, 32]⟩ : ByteArray) ++ B q = B ([40, 32] ++ q) := by rw [show (⟨#[40, 32]⟩ : ByteArray) = B [40, 32] from rfl, B_append]
theorem join1 (q : List UInt8) : B q ++ (⟨#[32, 41]⟩ : ByteArray) = B (q ++ [32, 41]) := by rw [show (⟨#[32, 41]⟩ : ByteArray) = B [32, 41] from rfl, B_append]
theorem parens_len {t : Tm} (h : Small 6 t) (n : Nat) (hn : n ≤ 99) : (printL (parens n (toksT t))).length ≤ 20000 := by
  have h1 := W_len (parens n (toksT t))
  rw [parens_W] at h1
  have h2 := small_W h
  have e1 : bigM 6 = 14207 := rfl
  omega
set_option maxRecDepth 100000 in
set_option maxHeartbeats 8000000 in
theorem lawPparens (w : World) (hG : GP w) (A : Option Addr) (c : Nat) (l : List Int) (hr : Kd.C (Kd.int .u8) w A l.length l) (hc : l.length ≤ c) (hm : l.length ≤ maxLen) (hy : l.length ≤ 140737488351232) (hw : ∀ x ∈ l, (Lit.int .u8 x).wf = true) (a : Int) (ha : (Lit.int .u8 a).wf = true) :
    Calls Tryz.prog 7 #[.slice A l.length c, .int .u8 a] w fun e w' => e = .returned (.bool true) ∧ Below w.heap.size w w' := by
  obtain ⟨bs, hbl, hrb⟩ := bytes_of hr hw
  rw [← hbl] at hc hy ⊢
  have R := Lib.hid hrb
  obtain ⟨t, ht⟩ : ∃ t, madeT bs = t := ⟨_, rfl⟩
  have hsm : Small 6 t := ht ▸ madeT_small bs
  have hrt := small_right hsm
  have hmax : bs.length ≤ 9223372036854775807 := by omega
  clear hr hw hrb hm hbl
  have HG := Lib.hid hG
  have HB := Lib.hid (Below.refl w.heap.size w)
  have K := Lib.hid (exam5C w hG.g)
  clear hG
  have hab := Go.bounds_u8 ha
  obtain ⟨m, hm⟩ : ∃ m : Nat, a % 100 = (m : Int) := ⟨(a % 100).toNat, by omega⟩
  have hm99 : m ≤ 99 := by omega
  have HF := Lib.hid (And.intro ht (And.intro hsm (And.intro hrt (And.intro hc hmax))))
  clear ht hsm hrt hmax hy ha
  go_enter Tryz.func7, Tryz.ntmps7
  go_wp2_with fail
  refine K.out.mono ?_
  rintro e w1 ⟨rfl, hb⟩
  clear K
  have hmv := hb
  have HG := Lib.hid (HG.out.below hmv)
  have HB := Lib.hid (HB.out.trans (hmv.mono HB.out.size))
  have R := Lib.hid (R.out.below hmv)
  clear hmv
  clear hb
  have K := Lib.hid (madeS A c bs t HF.out.1 w1 R.out HF.out.2.2.2.1 HF.out.2.2.2.2)
  go_wp2_with fail
  refine K.out.mono ?_
  rintro e w2 ⟨A2, c2, rfl, hv, hb⟩
  clear K
  have hmv := hb
  have HG := Lib.hid (HG.out.below hmv)
  have HB := Lib.hid (HB.out.trans (hmv.mono HB.out.size))
  have R := Lib.hid (R.out.below hmv)
  clear hmv
  clear hb
  have hA := below_alloc (Below.refl w2.heap.size w2) (.cells (tmA t A2 c2) 26)
  have Vt := Lib.hid hv
  have On := Own.new w2 (tmA t A2 c2) 26
  clear hv
  have Ot := Lib.hid On
  have hmv := hA
  have HG := Lib.hid (HG.out.below hmv)
  have HB := Lib.hid (HB.out.trans (hmv.mono HB.out.size))
  have R := Lib.hid (R.out.below hmv)
  clear hmv
  have Vt := Lib.hid (Vt.out.below hA)
  clear hA On
  have K := Lib.hid (showR t HF.out.2.2.1 _ _ Vt.out HG.out)
  have ct0 := Ot.out.cell 0
  have ct1 := Ot.out.cell 1
  have ct2 := Ot.out.cell 2
  have ct3 := Ot.out.cell 3
  go_wp2_with fail
  clear ct0 ct1 ct2 ct3
  refine K.out.mono ?_
  rintro e w3 ⟨rfl, hb⟩
  clear K
  have hmv := hb
  have HG := Lib.hid (HG.out.below hmv)
  have HB := Lib.hid (HB.out.trans (hmv.mono HB.out.size))
  have Vt := Lib.hid (Vt.out.below hmv)
  have Ot := Lib.hid (show Own _ _ _ _ from blk_below Ot.out hmv)
  have R := Lib.hid (R.out.below hmv)
  clear hmv
  clear hb
  obtain ⟨wx, hwx⟩ : ∃ wx, wx = w3 := ⟨_, rfl⟩
  go_wp2_with fail
  go_loopg [7, 8] m (fun gk v7 v8 wr => ∃ i : Nat, v7 = .string (B (printL (parens i (toksT t)))) ∧ v8 = .int .i64 i ∧ i ≤ m ∧ gk = m - i ∧ Aside0 (wr = w3))
  case atStart => exact ⟨0, rfl, rfl, Nat.zero_le _, rfl, ⟨rfl⟩⟩
  case round =>
    obtain ⟨i, rfl, rfl, hi, hgk, hwr⟩ := hrel
    obtain rfl := hwr.out
    clear hwx
    obtain ⟨q, hq⟩ : ∃ q, printL (parens i (toksT t)) = q := ⟨_, rfl⟩
    have hql := parens_len HF.out.2.1 i (by omega)
    rw [hq] at hql ⊢
    have hjn := printL_parens (small_ne HF.out.2.1) i
    rw [hq] at hjn
    have HQ := Lib.hid (And.intro hq hjn)
    clear hq hjn
    have J3 : B (40 :: 32 :: q) ++ (⟨#[32, 41]⟩ : ByteArray) = B (40 :: 32 :: q ++ [32, 41]) := join1 (40 :: 32 :: q)
    have z4 : (9223372036854775807 < (B (40 :: 32 :: q)).size + 2) = False := eq_false (by rw [B_size]; simp; omega)
    have J2 := join2 q
    have J1 := join1 q
    have z1 : (9223372036854775807 < 2 + (B q).size) = False := eq_false (by rw [B_size]; omega)
    have z2 : (9223372036854775807 < 2 + (B q).size + 2) = False := eq_false (by rw [B_size]; omega)
    have z3 : (9223372036854775807 < (B q).size + 2) = False := eq_false (by rw [B_size]; omega)
    by_cases hlt : i < m
    · have hdd : decide ((i : Int) < (m : Int)) = true := by rw [decide_eq_true_eq]; omega
      go_wp2_with fail
      go_roundg (m - (i + 1))
      case measure => omega
      case rel => exact ⟨i + 1, by rw [HQ.out.2]; first | rfl | simp, by go_num, by omega, rfl, ⟨rfl⟩⟩
    · skip
      have hdd : decide ((i : Int) < (m : Int)) = false := by rw [decide_eq_false_iff_not]; omega
      have hi99 : i ≤ 99 := by omega
      have K := Lib.hid (parseS q (by omega) t 0 (by rw [← HQ.out.1]; exact parens_ok HF.out.2.1 i hi99) _ HG.out)
      go_wp2_with fail
      refine K.out.mono ?_
      rintro e w4 ⟨A3, c3, rfl, hv, hb⟩
      clear K
      have hmv := hb
      have HG := Lib.hid (HG.out.below hmv)
      have HB := Lib.hid (HB.out.trans (hmv.mono HB.out.size))
      have Vt := Lib.hid (Vt.out.below hmv)
      have Ot := Lib.hid (show Own _ _ _ _ from blk_below Ot.out hmv)
      have R := Lib.hid (R.out.below hmv)
      clear hmv
      clear hb
      have hA := below_alloc (Below.refl w4.heap.size w4) (.cells (tmA t A3 c3) 26)
      have Va := Lib.hid hv
      have On := Own.new w4 (tmA t A3 c3) 26
      clear hv
      have Oa := Lib.hid On
      have hmv := hA
      have HG := Lib.hid (HG.out.below hmv)
      have HB := Lib.hid (HB.out.trans (hmv.mono HB.out.size))
      have Vt := Lib.hid (Vt.out.below hmv)
      have Ot := Lib.hid (show Own _ _ _ _ from blk_below Ot.out hmv)
      have R := Lib.hid (R.out.below hmv)
      clear hmv
      have Va := Lib.hid (Va.out.below hA)
      clear hA On
      have K := Lib.hid (parseS ([40, 32] ++ q) (by simp; omega) zTm 2 (by rw [← HQ.out.1]; exact parens_open HF.out.2.1 i hi99) _ HG.out)
      go_wp2_with fail
      refine K.out.mono ?_
      rintro e w5 ⟨A4, c4, rfl, hv, hb⟩
      clear K
      have hmv := hb
      have HG := Lib.hid (HG.out.below hmv)
      have HB := Lib.hid (HB.out.trans (hmv.mono HB.out.size))
      have Vt := Lib.hid (Vt.out.below hmv)
      have Ot := Lib.hid (show Own _ _ _ _ from blk_below Ot.out hmv)
      have Va := Lib.hid (Va.out.below hmv)
      have Oa := Lib.hid (show Own _ _ _ _ from blk_below Oa.out hmv)
      have R := Lib.hid (R.out.below hmv)
      clear hmv
      clear hb
      have hA := below_alloc (Below.refl w5.heap.size w5) (.cells (tmA zTm A4 c4) 26)
      have Vb := Lib.hid hv
      have On := Own.new w5 (tmA zTm A4 c4) 26
      clear hv
      have Ob := Lib.hid On
      have hmv := hA
      have HG := Lib.hid (HG.out.below hmv)
      have HB := Lib.hid (HB.out.trans (hmv.mono HB.out.size))
      have Vt := Lib.hid (Vt.out.below hmv)
      have Ot := Lib.hid (show Own _ _ _ _ from blk_below Ot.out hmv)
      have Va := Lib.hid (Va.out.below hmv)
      have Oa := Lib.hid (show Own _ _ _ _ from blk_below Oa.out hmv)
      have R := Lib.hid (R.out.below hmv)
      clear hmv
      have Vb := Lib.hid (Vb.out.below hA)
      clear hA On
      have K := Lib.hid (parseS (q ++ [32, 41]) (by simp; omega) zTm 2 (by rw [← HQ.out.1]; exact parens_close HF.out.2.1 i hi99) _ HG.out)
      go_wp2_with fail
      refine K.out.mono ?_
      rintro e w6 ⟨A5, c5, rfl, hv, hb⟩
      clear K
      have hmv := hb
      have HG := Lib.hid (HG.out.below hmv)
      have HB := Lib.hid (HB.out.trans (hmv.mono HB.out.size))
      have Vt := Lib.hid (Vt.out.below hmv)
      have Ot := Lib.hid (show Own _ _ _ _ from blk_below Ot.out hmv)
      have Va := Lib.hid (Va.out.below hmv)
      have Oa := Lib.hid (show Own _ _ _ _ from blk_below Oa.out hmv)
      have Vb := Lib.hid (Vb.out.below hmv)
      have Ob := Lib.hid (show Own _ _ _ _ from blk_below Ob.out hmv)
      have R := Lib.hid (R.out.below hmv)
      clear hmv
      clear hb
      have hA := below_alloc (Below.refl w6.heap.size w6) (.cells (tmA zTm A5 c5) 26)
      have Vd := Lib.hid hv
      have On := Own.new w6 (tmA zTm A5 c5) 26
      clear hv
      have Od := Lib.hid On
      have hmv := hA
      have HG := Lib.hid (HG.out.below hmv)
      have HB := Lib.hid (HB.out.trans (hmv.mono HB.out.size))
      have Vt := Lib.hid (Vt.out.below hmv)
      have Ot := Lib.hid (show Own _ _ _ _ from blk_below Ot.out hmv)
      have Va := Lib.hid (Va.out.below hmv)
      have Oa := Lib.hid (show Own _ _ _ _ from blk_below Oa.out hmv)
      have Vb := Lib.hid (Vb.out.below hmv)
      have Ob := Lib.hid (show Own _ _ _ _ from blk_below Ob.out hmv)
      have R := Lib.hid (R.out.below hmv)
      clear hmv
      have Vd := Lib.hid (Vd.out.below hA)
      clear hA On
      have K := Lib.hid (sameS t _ _ _ Va.out Vt.out)
      have ca0 := Oa.out.cell 0
      have ca1 := Oa.out.cell 1
      have ca2 := Oa.out.cell 2
      have ca3 := Oa.out.cell 3
      have ct0 := Ot.out.cell 0
      have ct1 := Ot.out.cell 1
      have ct2 := Ot.out.cell 2
      have ct3 := Ot.out.cell 3
      go_wp2_with fail
      clear ca0 ca1 ca2 ca3
      clear ct0 ct1 ct2 ct3
      refine K.out.mono ?_
      rintro e w7 ⟨rfl, hb⟩
      clear K
      have hmv := hb
      have HG := Lib.hid (HG.out.below hmv)
      have HB := Lib.hid (HB.out.trans (hmv.mono HB.out.size))
      have Vt := Lib.hid (Vt.out.below hmv)
      have Ot := Lib.hid (show Own _ _ _ _ from blk_below Ot.out hmv)
      have Va := Lib.hid (Va.out.below hmv)
      have Oa := Lib.hid (show Own _ _ _ _ from blk_below Oa.out hmv)
      have Vb := Lib.hid (Vb.out.below hmv)
      have Ob := Lib.hid (show Own _ _ _ _ from blk_below Ob.out hmv)
      have Vd := Lib.hid (Vd.out.below hmv)
      have Od := Lib.hid (show Own _ _ _ _ from blk_below Od.out hmv)
      have R := Lib.hid (R.out.below hmv)
      clear hmv
      clear hb
      go_wp2_with fail
      go_ret
      exact ⟨rfl, HB.out⟩
end Go.Proofs.YtchekgnacodolaaGreatDoor.X

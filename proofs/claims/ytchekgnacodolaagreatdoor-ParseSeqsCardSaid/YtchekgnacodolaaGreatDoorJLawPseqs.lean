/- ParseSeqs: what stands on both sides of a semicolon is a sequence of both, the first of which is taken ahead of the others. -/
import Derived.Test.YtchekgnacodolaaGreatDoorJ24
namespace Go.Proofs.YtchekgnacodolaaGreatDoor.X
open Go.RowKit Go.Proofs.YtchekgnacodolaaGreatDoorW.PrintWords Go.Proofs.YtchekgnacodolaaGreatDoorW.PrintLast Go.Proofs.YtchekgnacodolaaGreatDoorW.PrintMore
set_option linter.unusedSimpArgs false
set_option linter.unusedVariables false
theorem TmR.kids2 {b : Nat} {w : World} {a a' : Tm} {A A' : Option Addr} {c c' : Nat} {T : TypeId} (k : Int) (nm : ByteArray) (h0 : TmR w a (.agg (tmA a A c))) (h1 : TmR w a' (.agg (tmA a' A' c')))
    (hb : Own w b #[.int .i64 a.f0, .string a.f1, .int .i64 a.f2, .slice A a.f3.length c, .int .i64 a'.f0, .string a'.f1, .int .i64 a'.f2, .slice A' a'.f3.length c'] T) :
    TmR w (tm k nm [a, a']) (.agg #[.int .i64 k, .string nm, .int .i64 0, .slice (some ⟨b, 0, none⟩) 2 2]) := by
  obtain ⟨_, _, e0, hl0, hC0⟩ := h0
  obtain ⟨_, _, e1, hl1, hC1⟩ := h1
  simp only [Value.agg.injEq, Array.mk.injEq, List.cons.injEq, Value.slice.injEq, true_and, and_true] at e0 e1
  obtain ⟨rfl, rfl⟩ := e0
  obtain ⟨rfl, rfl⟩ := e1
  exact ⟨_, 2, rfl, Nat.le_refl _, C_lit hb (Reps.c4 (k26_mk w a hl0 hC0) (Reps.c4 (k26_mk w a' hl1 hC1) (Reps.none _ _))) (by show (2 : Nat) ≤ _; decide)⟩
theorem TmR.C_ {w : World} {t : Tm} {a b d : Value} {A : Option Addr} {m c : Nat} (h : TmR w t (.agg #[a, b, d, .slice A m c])) : Kd.C k26 w A t.f3.length t.f3 ∧ t.f3.length ≤ c := by
  obtain ⟨A', c', e, hl, hC⟩ := h
  cases e
  exact ⟨hC, hl⟩
theorem Own.new3 (w : World) (o o' : Obj) (cs : Array Value) (T : TypeId) : Own (((w.alloc o).alloc o').alloc (.cells cs T)) (w.heap.size + 2) cs T := by
  have e : ((w.alloc o).alloc o').heap.size = w.heap.size + 2 := by simp
  rw [← e]; exact Own.new _ _ _
theorem Own.new4 (w : World) (o o' o2 : Obj) (cs : Array Value) (T : TypeId) : Own ((((w.alloc o).alloc o').alloc o2).alloc (.cells cs T)) (w.heap.size + 3) cs T := by
  have e : (((w.alloc o).alloc o').alloc o2).heap.size = w.heap.size + 3 := by simp
  rw [← e]; exact Own.new _ _ _
theorem size_seqs {a b c : Tm} (ha : Small 6 a) (hb : Small 6 b) (hc : Small 6 c) : sizeT (tm 13 noName [a, tm 13 noName [b, c]]) ≤ 4000 := by
  have e2 : manyM 6 = 1093 := rfl
  have sa := ha.size
  have sb := hb.size
  have sc := hc.size
  simp only [tm, sizeT, sizesT]; omega
theorem seq_join (x y z : List UInt8) : (((((⟨#[40, 32]⟩ : ByteArray) ++ B x) ++ ⟨#[32, 41, 32, 59, 32, 40, 32]⟩) ++ B y) ++ ⟨#[32, 41, 32, 59, 32]⟩) ++ B z = B ([40, 32] ++ x ++ [32, 41, 32, 59, 32, 40, 32] ++ y ++ [32, 41, 32, 59, 32] ++ z) := by
  rw [show (⟨#[40, 32]⟩ : ByteArray) = B [40, 32] from rfl, show (⟨#[32, 41, 32, 59, 32, 40, 32]⟩ : ByteArray) = B [32, 41, 32, 59, 32, 40, 32] from rfl, show (⟨#[32, 41, 32, 59, 32]⟩ : ByteArray) = B [32, 41, 32, 59, 32] from rfl]
  simp only [B_append]
abbrev seqT (a b c : Tm) : Tm := tm 13 noName [a, tm 13 noName [b, c]]
set_option maxRecDepth 100000 in
set_option maxHeartbeats 8000000 in
theorem lawPseqs (w : World) (hG : GP w) (A1 : Option Addr) (c1 : Nat) (l : List Int) (hr1 : Kd.C (Kd.int .u8) w A1 l.length l) (hc1 : l.length ≤ c1) (hm1 : l.length ≤ maxLen) (hy1 : l.length ≤ 140737488351232) (hw1 : ∀ x ∈ l, (Lit.int .u8 x).wf = true) (A2 : Option Addr) (c2 : Nat) (m : List Int) (hr2 : Kd.C (Kd.int .u8) w A2 m.length m) (hc2 : m.length ≤ c2) (hm2 : m.length ≤ maxLen) (hy2 : m.length ≤ 140737488351232) (hw2 : ∀ x ∈ m, (Lit.int .u8 x).wf = true) (A3 : Option Addr) (c3 : Nat) (n : List Int) (hr3 : Kd.C (Kd.int .u8) w A3 n.length n) (hc3 : n.length ≤ c3) (hm3 : n.length ≤ maxLen) (hy3 : n.length ≤ 140737488351232) (hw3 : ∀ x ∈ n, (Lit.int .u8 x).wf = true) :
    Calls Tryz.prog 8 #[.slice A1 l.length c1, .slice A2 m.length c2, .slice A3 n.length c3] w fun e w' => e = .returned (.bool true) ∧ Below w.heap.size w w' := by
  obtain ⟨bs1, hbl1, hrb1⟩ := bytes_of hr1 hw1
  rw [← hbl1] at hc1 hy1 ⊢
  have R1 := Lib.hid hrb1
  obtain ⟨t1, ht1⟩ : ∃ t, madeT bs1 = t := ⟨_, rfl⟩
  have hsm1 : Small 6 t1 := ht1 ▸ madeT_small bs1
  have hrt1 := small_right hsm1
  have hmax1 : bs1.length ≤ 9223372036854775807 := by omega
  clear hr1 hw1 hrb1 hm1 hbl1
  obtain ⟨bs2, hbl2, hrb2⟩ := bytes_of hr2 hw2
  rw [← hbl2] at hc2 hy2 ⊢
  have R2 := Lib.hid hrb2
  obtain ⟨t2, ht2⟩ : ∃ t, madeT bs2 = t := ⟨_, rfl⟩
  have hsm2 : Small 6 t2 := ht2 ▸ madeT_small bs2
  have hrt2 := small_right hsm2
  have hmax2 : bs2.length ≤ 9223372036854775807 := by omega
  clear hr2 hw2 hrb2 hm2 hbl2
  obtain ⟨bs3, hbl3, hrb3⟩ := bytes_of hr3 hw3
  rw [← hbl3] at hc3 hy3 ⊢
  have R3 := Lib.hid hrb3
  obtain ⟨t3, ht3⟩ : ∃ t, madeT bs3 = t := ⟨_, rfl⟩
  have hsm3 : Small 6 t3 := ht3 ▸ madeT_small bs3
  have hrt3 := small_right hsm3
  have hmax3 : bs3.length ≤ 9223372036854775807 := by omega
  clear hr3 hw3 hrb3 hm3 hbl3
  have HG := Lib.hid hG
  have HB := Lib.hid (Below.refl w.heap.size w)
  have K := Lib.hid (exam5C w hG.g)
  clear hG
  have F1 := Lib.hid (And.intro ht1 (And.intro hsm1 (And.intro hrt1 (And.intro hc1 hmax1))))
  clear ht1 hsm1 hrt1 hmax1 hy1
  have F2 := Lib.hid (And.intro ht2 (And.intro hsm2 (And.intro hrt2 (And.intro hc2 hmax2))))
  clear ht2 hsm2 hrt2 hmax2 hy2
  have F3 := Lib.hid (And.intro ht3 (And.intro hsm3 (And.intro hrt3 (And.intro hc3 hmax3))))
  clear ht3 hsm3 hrt3 hmax3 hy3
  go_enter Tryz.func8, Tryz.ntmps8
  go_wp2_with fail
  refine K.out.mono ?_
  rintro e w1 ⟨rfl, hb⟩
  clear K
  have hmv := hb
  have HG := Lib.hid (HG.out.below hmv)
  have HB := Lib.hid (HB.out.trans (hmv.mono HB.out.size))
  have R1 := Lib.hid (R1.out.below hmv)
  have R2 := Lib.hid (R2.out.below hmv)
  have R3 := Lib.hid (R3.out.below hmv)
  clear hmv
  clear hb
  have K := Lib.hid (madeS A1 c1 bs1 t1 F1.out.1 _ R1.out F1.out.2.2.2.1 F1.out.2.2.2.2)
  go_wp2_with fail
  refine K.out.mono ?_
  rintro e w2 ⟨B1, d1, rfl, hv, hb⟩
  clear K
  have hmv := hb
  have HG := Lib.hid (HG.out.below hmv)
  have HB := Lib.hid (HB.out.trans (hmv.mono HB.out.size))
  have R1 := Lib.hid (R1.out.below hmv)
  have R2 := Lib.hid (R2.out.below hmv)
  have R3 := Lib.hid (R3.out.below hmv)
  clear hmv
  clear hb
  have hA := below_alloc (Below.refl w2.heap.size w2) (.cells (tmA t1 B1 d1) 26)
  have Va := Lib.hid hv
  have On := Own.new w2 (tmA t1 B1 d1) 26
  clear hv
  have Oa := Lib.hid On
  have hmv := hA
  have HG := Lib.hid (HG.out.below hmv)
  have HB := Lib.hid (HB.out.trans (hmv.mono HB.out.size))
  have R1 := Lib.hid (R1.out.below hmv)
  have R2 := Lib.hid (R2.out.below hmv)
  have R3 := Lib.hid (R3.out.below hmv)
  clear hmv
  have Va := Lib.hid (Va.out.below hA)
  clear hA On
  have K := Lib.hid (madeS A2 c2 bs2 t2 F2.out.1 _ R2.out F2.out.2.2.2.1 F2.out.2.2.2.2)
  go_wp2_with fail
  refine K.out.mono ?_
  rintro e w3 ⟨B2, d2, rfl, hv, hb⟩
  clear K
  have hmv := hb
  have HG := Lib.hid (HG.out.below hmv)
  have HB := Lib.hid (HB.out.trans (hmv.mono HB.out.size))
  have Va := Lib.hid (Va.out.below hmv)
  have Oa := Lib.hid (show Own _ _ _ _ from blk_below Oa.out hmv)
  have R1 := Lib.hid (R1.out.below hmv)
  have R2 := Lib.hid (R2.out.below hmv)
  have R3 := Lib.hid (R3.out.below hmv)
  clear hmv
  clear hb
  have hA := below_alloc (Below.refl w3.heap.size w3) (.cells (tmA t2 B2 d2) 26)
  have Vb := Lib.hid hv
  have On := Own.new w3 (tmA t2 B2 d2) 26
  clear hv
  have Ob := Lib.hid On
  have hmv := hA
  have HG := Lib.hid (HG.out.below hmv)
  have HB := Lib.hid (HB.out.trans (hmv.mono HB.out.size))
  have Va := Lib.hid (Va.out.below hmv)
  have Oa := Lib.hid (show Own _ _ _ _ from blk_below Oa.out hmv)
  have R1 := Lib.hid (R1.out.below hmv)
  have R2 := Lib.hid (R2.out.below hmv)
  have R3 := Lib.hid (R3.out.below hmv)
  clear hmv
  have Vb := Lib.hid (Vb.out.below hA)
  clear hA On
  have K := Lib.hid (madeS A3 c3 bs3 t3 F3.out.1 _ R3.out F3.out.2.2.2.1 F3.out.2.2.2.2)
  go_wp2_with fail
  refine K.out.mono ?_
  rintro e w4 ⟨B3, d3, rfl, hv, hb⟩
  clear K
  have hmv := hb
  have HG := Lib.hid (HG.out.below hmv)
  have HB := Lib.hid (HB.out.trans (hmv.mono HB.out.size))
  have Va := Lib.hid (Va.out.below hmv)
  have Oa := Lib.hid (show Own _ _ _ _ from blk_below Oa.out hmv)
  have Vb := Lib.hid (Vb.out.below hmv)
  have Ob := Lib.hid (show Own _ _ _ _ from blk_below Ob.out hmv)
  have R1 := Lib.hid (R1.out.below hmv)
  have R2 := Lib.hid (R2.out.below hmv)
  have R3 := Lib.hid (R3.out.below hmv)
  clear hmv
  clear hb
  have hA := below_alloc (Below.refl w4.heap.size w4) (.cells (tmA t3 B3 d3) 26)
  have Vd := Lib.hid hv
  have On := Own.new w4 (tmA t3 B3 d3) 26
  clear hv
  have Od := Lib.hid On
  have hmv := hA
  have HG := Lib.hid (HG.out.below hmv)
  have HB := Lib.hid (HB.out.trans (hmv.mono HB.out.size))
  have Va := Lib.hid (Va.out.below hmv)
  have Oa := Lib.hid (show Own _ _ _ _ from blk_below Oa.out hmv)
  have Vb := Lib.hid (Vb.out.below hmv)
  have Ob := Lib.hid (show Own _ _ _ _ from blk_below Ob.out hmv)
  have R1 := Lib.hid (R1.out.below hmv)
  have R2 := Lib.hid (R2.out.below hmv)
  have R3 := Lib.hid (R3.out.below hmv)
  clear hmv
  have Vd := Lib.hid (Vd.out.below hA)
  clear hA On
  go_wp2_with fail
  have ca0 := Oa.out.cell 0
  have ca1 := Oa.out.cell 1
  have ca2 := Oa.out.cell 2
  have ca3 := Oa.out.cell 3
  have cb0 := Ob.out.cell 0
  have cb1 := Ob.out.cell 1
  have cb2 := Ob.out.cell 2
  have cb3 := Ob.out.cell 3
  have cd0 := Od.out.cell 0
  have cd1 := Od.out.cell 1
  have cd2 := Od.out.cell 2
  have cd3 := Od.out.cell 3
  have hp1 := print_len F1.out.2.2.1
  have hp2 := print_len F2.out.2.2.1
  have hp3 := print_len F3.out.2.2.1
  obtain ⟨q1, hq1⟩ : ∃ q, printL (toksT t1) = q := ⟨_, rfl⟩
  obtain ⟨q2, hq2⟩ : ∃ q, printL (toksT t2) = q := ⟨_, rfl⟩
  obtain ⟨q3, hq3⟩ : ∃ q, printL (toksT t3) = q := ⟨_, rfl⟩
  rw [hq1] at hp1
  rw [hq2] at hp2
  rw [hq3] at hp3
  have z1 : (9223372036854775807 < 2 + (B q1).size) = False := eq_false (by rw [B_size]; omega)
  have z2 : (9223372036854775807 < 2 + (B q1).size + 7) = False := eq_false (by rw [B_size]; omega)
  have z3 : (9223372036854775807 < 2 + (B q1).size + 7 + (B q2).size) = False := eq_false (by rw [B_size, B_size]; omega)
  have z4 : (9223372036854775807 < 2 + (B q1).size + 7 + (B q2).size + 5) = False := eq_false (by rw [B_size, B_size]; omega)
  have z5 : (9223372036854775807 < 2 + (B q1).size + 7 + (B q2).size + 5 + (B q3).size) = False := eq_false (by rw [B_size, B_size, B_size]; omega)
  skip
  refine start_ (n := 12) (S := fun w' => w'.cell? ⟨w2.heap.size, 0, none⟩ = some (.int .i64 t1.f0) ∧ w'.cell? ⟨w2.heap.size, 1, none⟩ = some (.string t1.f1) ∧ w'.cell? ⟨w2.heap.size, 2, none⟩ = some (.int .i64 t1.f2) ∧ w'.cell? ⟨w2.heap.size, 3, none⟩ = some (.slice B1 t1.f3.length d1) ∧ w'.cell? ⟨w3.heap.size, 0, none⟩ = some (.int .i64 t2.f0) ∧ w'.cell? ⟨w3.heap.size, 1, none⟩ = some (.string t2.f1) ∧ w'.cell? ⟨w3.heap.size, 2, none⟩ = some (.int .i64 t2.f2) ∧ w'.cell? ⟨w3.heap.size, 3, none⟩ = some (.slice B2 t2.f3.length d2) ∧ w'.cell? ⟨w4.heap.size, 0, none⟩ = some (.int .i64 t3.f0) ∧ w'.cell? ⟨w4.heap.size, 1, none⟩ = some (.string t3.f1) ∧ w'.cell? ⟨w4.heap.size, 2, none⟩ = some (.int .i64 t3.f2) ∧ w'.cell? ⟨w4.heap.size, 3, none⟩ = some (.slice B3 t3.f3.length d3)) (ds := [11]) #[false, false, false, false, false, false, false, false, false, false, false, false] (by kernel_rfl) rfl rfl ⟨(Oa.out).cell 0, (Oa.out).cell 1, (Oa.out).cell 2, (Oa.out).cell 3, (Ob.out).cell 0, (Ob.out).cell 1, (Ob.out).cell 2, (Ob.out).cell 3, (Od.out).cell 0, (Od.out).cell 1, (Od.out).cell 2, (Od.out).cell 3⟩ (fun hHeld => ?_)
  have hmv := (below_drew (Below.refl (w4.alloc (.cells (tmA t3 B3 d3) 26)).heap.size (w4.alloc (.cells (tmA t3 B3 d3) 26))))
  have HG := Lib.hid (HG.out.below hmv)
  have HB := Lib.hid (HB.out.trans (hmv.mono HB.out.size))
  have Va := Lib.hid (Va.out.below hmv)
  have Oa := Lib.hid (show Own _ _ _ _ from blk_below Oa.out hmv)
  have Vb := Lib.hid (Vb.out.below hmv)
  have Ob := Lib.hid (show Own _ _ _ _ from blk_below Ob.out hmv)
  have Vd := Lib.hid (Vd.out.below hmv)
  have Od := Lib.hid (show Own _ _ _ _ from blk_below Od.out hmv)
  have R1 := Lib.hid (R1.out.below hmv)
  have R2 := Lib.hid (R2.out.below hmv)
  have R3 := Lib.hid (R3.out.below hmv)
  clear hmv
  refine take_ (i := 0) (N := some 24) (v := ?_) (a' := ?_) #[true, false, false, false, false, false, false, false, false, false, false, false] rfl rfl (by kernel_rfl) (fun _ _ _ h => h) (Or.inl ⟨by rfl, ?_⟩) hHeld ?_ ?_
  rotate_left
  · rintro w' ⟨s0, s1, s2, s3, s4, s5, s6, s7, s8, s9, s10, s11⟩
    go_simp
    with_reducible rfl
  rotate_left
  · simp only [Act.put, List.setIfInBounds_toArray, List.set_cons_zero, List.set_cons_succ]
    rfl
  refine take_ (i := 4) (N := some 28) (v := ?_) (a' := ?_) #[true, false, false, false, true, false, false, false, false, false, false, false] rfl rfl (by kernel_rfl) (fun _ _ _ h => h) (Or.inl ⟨by rfl, ?_⟩) hHeld ?_ ?_
  rotate_left
  · rintro w' ⟨s0, s1, s2, s3, s4, s5, s6, s7, s8, s9, s10, s11⟩
    go_simp
    with_reducible rfl
  rotate_left
  · simp only [Act.put, List.setIfInBounds_toArray, List.set_cons_zero, List.set_cons_succ]
    rfl
  refine take_ (i := 8) (N := some 32) (v := ?_) (a' := ?_) #[true, false, false, false, true, false, false, false, true, false, false, false] rfl rfl (by kernel_rfl) (fun _ _ _ h => h) (Or.inl ⟨by rfl, ?_⟩) hHeld ?_ ?_
  rotate_left
  · rintro w' ⟨s0, s1, s2, s3, s4, s5, s6, s7, s8, s9, s10, s11⟩
    go_simp
    with_reducible rfl
  rotate_left
  · simp only [Act.put, List.setIfInBounds_toArray, List.set_cons_zero, List.set_cons_succ]
    rfl
  refine one_ (i := 1) (N := some 25) #[true, true, false, false, true, false, false, false, true, false, false, false] rfl rfl (by kernel_rfl) (by decide) (fun K hK => ?_)
  refine goes_ Tryz.func29 (by kernel_rfl) rfl #[.agg (tmA t1 B1 d1)] (by rfl) rfl rfl (by (try simp only [List.map_toArray, List.map_cons, List.map_nil]); first | done | rfl) ?_
  refine (showR t1 F1.out.2.2.1 _ _ Va.out HG.out).mono ?_
  rintro e w5 ⟨rfl, hb⟩
  have hmv := hb
  have HG := Lib.hid (HG.out.below hmv)
  have HB := Lib.hid (HB.out.trans (hmv.mono HB.out.size))
  have Va := Lib.hid (Va.out.below hmv)
  have Oa := Lib.hid (show Own _ _ _ _ from blk_below Oa.out hmv)
  have Vb := Lib.hid (Vb.out.below hmv)
  have Ob := Lib.hid (show Own _ _ _ _ from blk_below Ob.out hmv)
  have Vd := Lib.hid (Vd.out.below hmv)
  have Od := Lib.hid (show Own _ _ _ _ from blk_below Od.out hmv)
  have R1 := Lib.hid (R1.out.below hmv)
  have R2 := Lib.hid (R2.out.below hmv)
  have R3 := Lib.hid (R3.out.below hmv)
  clear hmv
  clear hb
  rw [hq1]
  refine ⟨_, rfl, ?_⟩
  refine hK.out _ _ ⟨(Oa.out).cell 0, (Oa.out).cell 1, (Oa.out).cell 2, (Oa.out).cell 3, (Ob.out).cell 0, (Ob.out).cell 1, (Ob.out).cell 2, (Ob.out).cell 3, (Od.out).cell 0, (Od.out).cell 1, (Od.out).cell 2, (Od.out).cell 3⟩ (fun hHeld => ?_)
  clear hK K
  refine norm_ (a' := ?_) ?_ ?_
  rotate_left
  · show Act.put _ (some 25) _ = _
    simp only [Act.put, List.setIfInBounds_toArray, List.set_cons_zero, List.set_cons_succ]
    rfl
  refine pure_ (i := 2) (N := some 26) (v := ?_) (a' := ?_) #[true, true, true, false, true, false, false, false, true, false, false, false] rfl rfl (by kernel_rfl) (fun _ _ _ h => h) (Or.inl ⟨by rfl, ?_⟩) ?_ ?_
  rotate_left
  · intro w'
    go_simp
    with_reducible rfl
  rotate_left
  · simp only [Act.put, List.setIfInBounds_toArray, List.set_cons_zero, List.set_cons_succ]
    rfl
  refine pure_ (i := 3) (N := some 27) (v := ?_) (a' := ?_) #[true, true, true, true, true, false, false, false, true, false, false, false] rfl rfl (by kernel_rfl) (fun _ _ _ h => h) (Or.inl ⟨by rfl, ?_⟩) ?_ ?_
  rotate_left
  · intro w'
    go_simp
    with_reducible rfl
  rotate_left
  · simp only [Act.put, List.setIfInBounds_toArray, List.set_cons_zero, List.set_cons_succ]
    rfl
  refine one_ (i := 5) (N := some 29) #[true, true, true, true, true, true, false, false, true, false, false, false] rfl rfl (by kernel_rfl) (by decide) (fun K hK => ?_)
  refine goes_ Tryz.func29 (by kernel_rfl) rfl #[.agg (tmA t2 B2 d2)] (by rfl) rfl rfl (by (try simp only [List.map_toArray, List.map_cons, List.map_nil]); first | done | rfl) ?_
  refine (showR t2 F2.out.2.2.1 _ _ Vb.out HG.out).mono ?_
  rintro e w6 ⟨rfl, hb⟩
  have hmv := hb
  have HG := Lib.hid (HG.out.below hmv)
  have HB := Lib.hid (HB.out.trans (hmv.mono HB.out.size))
  have Va := Lib.hid (Va.out.below hmv)
  have Oa := Lib.hid (show Own _ _ _ _ from blk_below Oa.out hmv)
  have Vb := Lib.hid (Vb.out.below hmv)
  have Ob := Lib.hid (show Own _ _ _ _ from blk_below Ob.out hmv)
  have Vd := Lib.hid (Vd.out.below hmv)
  have Od := Lib.hid (show Own _ _ _ _ from blk_below Od.out hmv)
  have R1 := Lib.hid (R1.out.below hmv)
  have R2 := Lib.hid (R2.out.below hmv)
  have R3 := Lib.hid (R3.out.below hmv)
  clear hmv
  clear hb
  rw [hq2]
  refine ⟨_, rfl, ?_⟩
  refine hK.out _ _ ⟨(Oa.out).cell 0, (Oa.out).cell 1, (Oa.out).cell 2, (Oa.out).cell 3, (Ob.out).cell 0, (Ob.out).cell 1, (Ob.out).cell 2, (Ob.out).cell 3, (Od.out).cell 0, (Od.out).cell 1, (Od.out).cell 2, (Od.out).cell 3⟩ (fun hHeld => ?_)
  clear hK K
  refine norm_ (a' := ?_) ?_ ?_
  rotate_left
  · show Act.put _ (some 29) _ = _
    simp only [Act.put, List.setIfInBounds_toArray, List.set_cons_zero, List.set_cons_succ]
    rfl
  refine pure_ (i := 6) (N := some 30) (v := ?_) (a' := ?_) #[true, true, true, true, true, true, true, false, true, false, false, false] rfl rfl (by kernel_rfl) (fun _ _ _ h => h) (Or.inl ⟨by rfl, ?_⟩) ?_ ?_
  rotate_left
  · intro w'
    go_simp
    with_reducible rfl
  rotate_left
  · simp only [Act.put, List.setIfInBounds_toArray, List.set_cons_zero, List.set_cons_succ]
    rfl
  refine pure_ (i := 7) (N := some 31) (v := ?_) (a' := ?_) #[true, true, true, true, true, true, true, true, true, false, false, false] rfl rfl (by kernel_rfl) (fun _ _ _ h => h) (Or.inl ⟨by rfl, ?_⟩) ?_ ?_
  rotate_left
  · intro w'
    go_simp
    with_reducible rfl
  rotate_left
  · simp only [Act.put, List.setIfInBounds_toArray, List.set_cons_zero, List.set_cons_succ]
    rfl
  refine one_ (i := 9) (N := some 33) #[true, true, true, true, true, true, true, true, true, true, false, false] rfl rfl (by kernel_rfl) (by decide) (fun K hK => ?_)
  refine goes_ Tryz.func29 (by kernel_rfl) rfl #[.agg (tmA t3 B3 d3)] (by rfl) rfl rfl (by (try simp only [List.map_toArray, List.map_cons, List.map_nil]); first | done | rfl) ?_
  refine (showR t3 F3.out.2.2.1 _ _ Vd.out HG.out).mono ?_
  rintro e w7 ⟨rfl, hb⟩
  have hmv := hb
  have HG := Lib.hid (HG.out.below hmv)
  have HB := Lib.hid (HB.out.trans (hmv.mono HB.out.size))
  have Va := Lib.hid (Va.out.below hmv)
  have Oa := Lib.hid (show Own _ _ _ _ from blk_below Oa.out hmv)
  have Vb := Lib.hid (Vb.out.below hmv)
  have Ob := Lib.hid (show Own _ _ _ _ from blk_below Ob.out hmv)
  have Vd := Lib.hid (Vd.out.below hmv)
  have Od := Lib.hid (show Own _ _ _ _ from blk_below Od.out hmv)
  have R1 := Lib.hid (R1.out.below hmv)
  have R2 := Lib.hid (R2.out.below hmv)
  have R3 := Lib.hid (R3.out.below hmv)
  clear hmv
  clear hb
  rw [hq3]
  refine ⟨_, rfl, ?_⟩
  refine hK.out _ _ ⟨(Oa.out).cell 0, (Oa.out).cell 1, (Oa.out).cell 2, (Oa.out).cell 3, (Ob.out).cell 0, (Ob.out).cell 1, (Ob.out).cell 2, (Ob.out).cell 3, (Od.out).cell 0, (Od.out).cell 1, (Od.out).cell 2, (Od.out).cell 3⟩ (fun hHeld => ?_)
  clear hK K
  refine norm_ (a' := ?_) ?_ ?_
  rotate_left
  · show Act.put _ (some 33) _ = _
    simp only [Act.put, List.setIfInBounds_toArray, List.set_cons_zero, List.set_cons_succ]
    rfl
  refine pure_ (i := 10) (N := some 34) (v := ?_) (a' := ?_) #[true, true, true, true, true, true, true, true, true, true, true, false] rfl rfl (by kernel_rfl) (fun _ _ _ h => h) (Or.inl ⟨by rfl, ?_⟩) ?_ ?_
  rotate_left
  · intro w'
    go_simp
    with_reducible rfl
  rotate_left
  · simp only [Act.put, List.setIfInBounds_toArray, List.set_cons_zero, List.set_cons_succ]
    rfl
  refine pure_ (i := 11) (N := some 11) (v := ?_) (a' := ?_) #[true, true, true, true, true, true, true, true, true, true, true, true] rfl rfl (by kernel_rfl) (fun _ _ _ h => h) (Or.inl ⟨by rfl, ?_⟩) ?_ ?_
  rotate_left
  · intro w'
    go_simp
    with_reducible rfl
  rotate_left
  · simp only [Act.put, List.setIfInBounds_toArray, List.set_cons_zero, List.set_cons_succ]
    rfl
  refine done_ (by kernel_rfl) ?_
  clear hHeld
  try clear hHeld_1
  clear z1 z2 z3 z4 z5
  clear ca0 ca1 ca2 ca3
  clear cb0 cb1 cb2 cb3
  clear cd0 cd1 cd2 cd3
  have J := seq_join q1 q2 q3
  have HQ := Lib.hid (And.intro (And.intro hq1 (And.intro hq2 hq3)) (And.intro hp1 (And.intro hp2 hp3)))
  clear hq1 hq2 hq3 hp1 hp2 hp3
  have hps : parseR ([40, 32] ++ q1 ++ [32, 41, 32, 59, 32, 40, 32] ++ q2 ++ [32, 41, 32, 59, 32] ++ q3) = (seqT t1 t2 t3, 0) := by
    rw [← HQ.out.1.1, ← HQ.out.1.2.1, ← HQ.out.1.2.2]; exact seqs_ok F1.out.2.1 F2.out.2.1 F3.out.2.1
  obtain ⟨qq, hqq⟩ : ∃ q, [40, 32] ++ q1 ++ [32, 41, 32, 59, 32, 40, 32] ++ q2 ++ [32, 41, 32, 59, 32] ++ q3 = q := ⟨_, rfl⟩
  have hqql : qq.length ≤ 9223372036854775807 := by rw [← hqq]; have := HQ.out.2; simp only [List.length_append, List.length_cons, List.length_nil]; omega
  rw [hqq] at J hps
  have K := Lib.hid (parseS qq hqql (seqT t1 t2 t3) 0 hps _ HG.out)
  go_wp2_with fail
  refine K.out.mono ?_
  rintro e w8 ⟨A4, c4, rfl, hv, hb⟩
  clear K
  have hmv := hb
  have HG := Lib.hid (HG.out.below hmv)
  have HB := Lib.hid (HB.out.trans (hmv.mono HB.out.size))
  have Va := Lib.hid (Va.out.below hmv)
  have Oa := Lib.hid (show Own _ _ _ _ from blk_below Oa.out hmv)
  have Vb := Lib.hid (Vb.out.below hmv)
  have Ob := Lib.hid (show Own _ _ _ _ from blk_below Ob.out hmv)
  have Vd := Lib.hid (Vd.out.below hmv)
  have Od := Lib.hid (show Own _ _ _ _ from blk_below Od.out hmv)
  have R1 := Lib.hid (R1.out.below hmv)
  have R2 := Lib.hid (R2.out.below hmv)
  have R3 := Lib.hid (R3.out.below hmv)
  clear hmv
  clear hb
  clear hps J
  have hA := below_alloc (Below.refl w8.heap.size w8) (.cells (tmA (seqT t1 t2 t3) A4 c4) 26)
  have Vs := Lib.hid hv
  have On := Own.new w8 (tmA (seqT t1 t2 t3) A4 c4) 26
  clear hv
  have Os := Lib.hid On
  have hmv := hA
  have HG := Lib.hid (HG.out.below hmv)
  have HB := Lib.hid (HB.out.trans (hmv.mono HB.out.size))
  have Va := Lib.hid (Va.out.below hmv)
  have Oa := Lib.hid (show Own _ _ _ _ from blk_below Oa.out hmv)
  have Vb := Lib.hid (Vb.out.below hmv)
  have Ob := Lib.hid (show Own _ _ _ _ from blk_below Ob.out hmv)
  have Vd := Lib.hid (Vd.out.below hmv)
  have Od := Lib.hid (show Own _ _ _ _ from blk_below Od.out hmv)
  have R1 := Lib.hid (R1.out.below hmv)
  have R2 := Lib.hid (R2.out.below hmv)
  have R3 := Lib.hid (R3.out.below hmv)
  clear hmv
  have Vs := Lib.hid (Vs.out.below hA)
  clear hA On
  have ca0 := Oa.out.cell 0
  have ca1 := Oa.out.cell 1
  have ca2 := Oa.out.cell 2
  have ca3 := Oa.out.cell 3
  have cb0 := Ob.out.cell 0
  have cb1 := Ob.out.cell 1
  have cb2 := Ob.out.cell 2
  have cb3 := Ob.out.cell 3
  have cd0 := Od.out.cell 0
  have cd1 := Od.out.cell 1
  have cd2 := Od.out.cell 2
  have cd3 := Od.out.cell 3
  obtain ⟨W3, hW3⟩ : ∃ W3, W3 = (((w8.alloc (.cells (tmA (seqT t1 t2 t3) A4 c4) 26)).alloc (.cells #[.int .i64 t2.f0, .string t2.f1, .int .i64 t2.f2, .slice B2 t2.f3.length d2, .int .i64 t3.f0, .string t3.f1, .int .i64 t3.f2, .slice B3 t3.f3.length d3] 26)).alloc (.cells #[.int .i64 t1.f0, .string t1.f1, .int .i64 t1.f2, .slice B1 t1.f3.length d1, .int .i64 13, .string ⟨#[]⟩, .int .i64 0, .slice (some ⟨w8.heap.size + 1, 0, none⟩) 2 2] 26)).alloc (.cells #[.int .i64 13, .string ⟨#[]⟩, .int .i64 0, .slice (some ⟨w8.heap.size + 1 + 1, 0, none⟩) 2 2] 26) := ⟨_, rfl⟩
  have hb3 : Below (w8.alloc (.cells (tmA (seqT t1 t2 t3) A4 c4) 26)).heap.size (w8.alloc (.cells (tmA (seqT t1 t2 t3) A4 c4) 26)) W3 := by rw [hW3]; exact below_alloc (below_alloc (below_alloc (Below.refl _ _) _) _) _
  have Bi : Own W3 (w8.heap.size + 1) #[.int .i64 t2.f0, .string t2.f1, .int .i64 t2.f2, .slice B2 t2.f3.length d2, .int .i64 t3.f0, .string t3.f1, .int .i64 t3.f2, .slice B3 t3.f3.length d3] 26 := by rw [hW3]; exact ((Own.new2 _ _ _ _).alloc _).alloc _
  have Bo : Own W3 (w8.heap.size + 1 + 1) #[.int .i64 t1.f0, .string t1.f1, .int .i64 t1.f2, .slice B1 t1.f3.length d1, .int .i64 13, .string ⟨#[]⟩, .int .i64 0, .slice (some ⟨w8.heap.size + 1, 0, none⟩) 2 2] 26 := by rw [hW3]; exact (Own.new3 _ _ _ _ _).alloc _
  have Ow := Lib.hid (show Own W3 (w8.heap.size + 1 + 1 + 1) #[.int .i64 13, .string ⟨#[]⟩, .int .i64 0, .slice (some ⟨w8.heap.size + 1 + 1, 0, none⟩) 2 2] 26 by rw [hW3]; exact Own.new4 _ _ _ _ _ _)
  have Ti := TmR.kids2 13 noName (Vb.out.below hb3) (Vd.out.below hb3) Bi
  have Vw := Lib.hid (show TmR W3 (seqT t1 t2 t3) (.agg #[.int .i64 13, .string ⟨#[]⟩, .int .i64 0, .slice (some ⟨w8.heap.size + 1 + 1, 0, none⟩) 2 2]) from TmR.kids2 13 noName (Va.out.below hb3) Ti Bo)
  clear Bi Bo Ti
  have hmv := hb3
  have HG := Lib.hid (HG.out.below hmv)
  have HB := Lib.hid (HB.out.trans (hmv.mono HB.out.size))
  have Va := Lib.hid (Va.out.below hmv)
  have Oa := Lib.hid (show Own _ _ _ _ from blk_below Oa.out hmv)
  have Vb := Lib.hid (Vb.out.below hmv)
  have Ob := Lib.hid (show Own _ _ _ _ from blk_below Ob.out hmv)
  have Vd := Lib.hid (Vd.out.below hmv)
  have Od := Lib.hid (show Own _ _ _ _ from blk_below Od.out hmv)
  have Vs := Lib.hid (Vs.out.below hmv)
  have Os := Lib.hid (show Own _ _ _ _ from blk_below Os.out hmv)
  have R1 := Lib.hid (R1.out.below hmv)
  have R2 := Lib.hid (R2.out.below hmv)
  have R3 := Lib.hid (R3.out.below hmv)
  clear hmv
  clear hb3
  have cs0 := Os.out.cell 0
  have cs1 := Os.out.cell 1
  have cs2 := Os.out.cell 2
  have cs3 := Os.out.cell 3
  have cw0 := Ow.out.cell 0
  have cw1 := Ow.out.cell 1
  have cw2 := Ow.out.cell 2
  have cw3 := Ow.out.cell 3
  have ed0 := Od.out.cell 0
  subst hW3
  have hs13 : ((seqT t1 t2 t3).f0 == 13) = true := rfl
  cases h13 : (t3.f0 == 13) with
  | false =>
    go_wp2_with fail
    refine (sameS (seqT t1 t2 t3) _ _ _ Vs.out Vw.out).mono ?_
    rintro e w9 ⟨rfl, hb⟩
    have HB := Lib.hid (HB.out.trans (hb.mono HB.out.size))
    clear hb
    go_wp2_with fail
    go_ret
    exact ⟨rfl, HB.out⟩
  | true =>
    have hsz : sizeT (seqT t1 t2 t3) ≤ 4000 := size_seqs F1.out.2.1 F2.out.2.1 F3.out.2.1
    obtain ⟨hC4, hl4⟩ := TmR.C_ Vs.out
    obtain ⟨hC5, hl5⟩ := TmR.C_ Vw.out
    have KS1 := Lib.hid (fun W (hb : Below (((((w8.alloc (.cells (tmA (seqT t1 t2 t3) A4 c4) 26)).alloc (.cells #[.int .i64 t2.f0, .string t2.f1, .int .i64 t2.f2, .slice B2 t2.f3.length d2, .int .i64 t3.f0, .string t3.f1, .int .i64 t3.f2, .slice B3 t3.f3.length d3] 26)).alloc (.cells #[.int .i64 t1.f0, .string t1.f1, .int .i64 t1.f2, .slice B1 t1.f3.length d1, .int .i64 13, .string ⟨#[]⟩, .int .i64 0, .slice (some ⟨w8.heap.size + 1, 0, none⟩) 2 2] 26)).alloc (.cells #[.int .i64 13, .string ⟨#[]⟩, .int .i64 0, .slice (some ⟨w8.heap.size + 1 + 1, 0, none⟩) 2 2] 26))).heap.size ((((w8.alloc (.cells (tmA (seqT t1 t2 t3) A4 c4) 26)).alloc (.cells #[.int .i64 t2.f0, .string t2.f1, .int .i64 t2.f2, .slice B2 t2.f3.length d2, .int .i64 t3.f0, .string t3.f1, .int .i64 t3.f2, .slice B3 t3.f3.length d3] 26)).alloc (.cells #[.int .i64 t1.f0, .string t1.f1, .int .i64 t1.f2, .slice B1 t1.f3.length d1, .int .i64 13, .string ⟨#[]⟩, .int .i64 0, .slice (some ⟨w8.heap.size + 1, 0, none⟩) 2 2] 26)).alloc (.cells #[.int .i64 13, .string ⟨#[]⟩, .int .i64 0, .slice (some ⟨w8.heap.size + 1 + 1, 0, none⟩) 2 2] 26)) W) => term_Size.calls (2 * sizeT (seqT t1 t2 t3)) (seqT t1 t2 t3).f0 (seqT t1 t2 t3).f1 (seqT t1 t2 t3).f2 A4 c4 (seqT t1 t2 t3).f3 (sizeT (seqT t1 t2 t3)) W (Kd.C_below hC4 hb) hl4 (size_eq _ (by omega) _ (Nat.le_refl _)))
    have KS2 := Lib.hid (fun W (hb : Below (((((w8.alloc (.cells (tmA (seqT t1 t2 t3) A4 c4) 26)).alloc (.cells #[.int .i64 t2.f0, .string t2.f1, .int .i64 t2.f2, .slice B2 t2.f3.length d2, .int .i64 t3.f0, .string t3.f1, .int .i64 t3.f2, .slice B3 t3.f3.length d3] 26)).alloc (.cells #[.int .i64 t1.f0, .string t1.f1, .int .i64 t1.f2, .slice B1 t1.f3.length d1, .int .i64 13, .string ⟨#[]⟩, .int .i64 0, .slice (some ⟨w8.heap.size + 1, 0, none⟩) 2 2] 26)).alloc (.cells #[.int .i64 13, .string ⟨#[]⟩, .int .i64 0, .slice (some ⟨w8.heap.size + 1 + 1, 0, none⟩) 2 2] 26))).heap.size ((((w8.alloc (.cells (tmA (seqT t1 t2 t3) A4 c4) 26)).alloc (.cells #[.int .i64 t2.f0, .string t2.f1, .int .i64 t2.f2, .slice B2 t2.f3.length d2, .int .i64 t3.f0, .string t3.f1, .int .i64 t3.f2, .slice B3 t3.f3.length d3] 26)).alloc (.cells #[.int .i64 t1.f0, .string t1.f1, .int .i64 t1.f2, .slice B1 t1.f3.length d1, .int .i64 13, .string ⟨#[]⟩, .int .i64 0, .slice (some ⟨w8.heap.size + 1, 0, none⟩) 2 2] 26)).alloc (.cells #[.int .i64 13, .string ⟨#[]⟩, .int .i64 0, .slice (some ⟨w8.heap.size + 1 + 1, 0, none⟩) 2 2] 26)) W) => term_Size.calls (2 * sizeT (seqT t1 t2 t3)) 13 ⟨#[]⟩ 0 (some ⟨w8.heap.size + 1 + 1, 0, none⟩) 2 [t1, tm 13 noName [t2, t3]] (sizeT (seqT t1 t2 t3)) W (Kd.C_below hC5 hb) (Nat.le_refl _) (size_eq (seqT t1 t2 t3) (by omega) _ (Nat.le_refl _)))
    clear hC4 hC5 hl4 hl5 hsz
    go_wp2_with fail
    clear HG R1 R2 R3 Va Oa Vb Ob Vd Od cs0 cs1 cs2 cs3 cw0 cw1 cw2 cw3 ed0
    generalize ((((w8.alloc (.cells (tmA (seqT t1 t2 t3) A4 c4) 26)).alloc (.cells #[.int .i64 t2.f0, .string t2.f1, .int .i64 t2.f2, .slice B2 t2.f3.length d2, .int .i64 t3.f0, .string t3.f1, .int .i64 t3.f2, .slice B3 t3.f3.length d3] 26)).alloc (.cells #[.int .i64 t1.f0, .string t1.f1, .int .i64 t1.f2, .slice B1 t1.f3.length d1, .int .i64 13, .string ⟨#[]⟩, .int .i64 0, .slice (some ⟨w8.heap.size + 1, 0, none⟩) 2 2] 26)).alloc (.cells #[.int .i64 13, .string ⟨#[]⟩, .int .i64 0, .slice (some ⟨w8.heap.size + 1 + 1, 0, none⟩) 2 2] 26)) = W3 at KS1 KS2 Os Ow HB Vs Vw ⊢
    have hS : ∀ W, Below W3.heap.size W3 W → (fun w' => w'.cell? ⟨w8.heap.size, 0, none⟩ = some (.int .i64 (seqT t1 t2 t3).f0) ∧ w'.cell? ⟨w8.heap.size, 1, none⟩ = some (.string (seqT t1 t2 t3).f1) ∧ w'.cell? ⟨w8.heap.size, 2, none⟩ = some (.int .i64 (seqT t1 t2 t3).f2) ∧ w'.cell? ⟨w8.heap.size, 3, none⟩ = some (.slice A4 (seqT t1 t2 t3).f3.length c4) ∧ w'.cell? ⟨w8.heap.size + 1 + 1 + 1, 0, none⟩ = some (.int .i64 13) ∧ w'.cell? ⟨w8.heap.size + 1 + 1 + 1, 1, none⟩ = some (.string ⟨#[]⟩) ∧ w'.cell? ⟨w8.heap.size + 1 + 1 + 1, 2, none⟩ = some (.int .i64 0) ∧ w'.cell? ⟨w8.heap.size + 1 + 1 + 1, 3, none⟩ = some (.slice (some ⟨w8.heap.size + 1 + 1, 0, none⟩) 2 2)) W := fun W hb => by
      have o1 : Own _ _ _ _ := blk_below Os.out hb
      have o2 : Own _ _ _ _ := blk_below Ow.out hb
      exact ⟨o1.cell 0, o1.cell 1, o1.cell 2, o1.cell 3, o2.cell 0, o2.cell 1, o2.cell 2, o2.cell 3⟩
    refine start_ (n := 18) (S := fun w' => w'.cell? ⟨w8.heap.size, 0, none⟩ = some (.int .i64 (seqT t1 t2 t3).f0) ∧ w'.cell? ⟨w8.heap.size, 1, none⟩ = some (.string (seqT t1 t2 t3).f1) ∧ w'.cell? ⟨w8.heap.size, 2, none⟩ = some (.int .i64 (seqT t1 t2 t3).f2) ∧ w'.cell? ⟨w8.heap.size, 3, none⟩ = some (.slice A4 (seqT t1 t2 t3).f3.length c4) ∧ w'.cell? ⟨w8.heap.size + 1 + 1 + 1, 0, none⟩ = some (.int .i64 13) ∧ w'.cell? ⟨w8.heap.size + 1 + 1 + 1, 1, none⟩ = some (.string ⟨#[]⟩) ∧ w'.cell? ⟨w8.heap.size + 1 + 1 + 1, 2, none⟩ = some (.int .i64 0) ∧ w'.cell? ⟨w8.heap.size + 1 + 1 + 1, 3, none⟩ = some (.slice (some ⟨w8.heap.size + 1 + 1, 0, none⟩) 2 2)) (ds := [17]) #[false, false, false, false, false, false, false, false, false, false, false, false, false, false, false, false, false, false] (by kernel_rfl) rfl rfl (hS _ (below_drew (Below.refl _ _))) (fun hHeld => ?_)
    have hD : Below W3.heap.size W3 W3.drew := below_drew (Below.refl _ _)
    generalize W3.drew = W1 at hD hHeld ⊢
    refine pure_ (i := 0) (N := some 50) (v := ?_) (a' := ?_) #[true, false, false, false, false, false, false, false, false, false, false, false, false, false, false, false, false, false] rfl rfl (by kernel_rfl) (fun _ _ _ h => h) (Or.inl ⟨by rfl, ?_⟩) ?_ ?_
    rotate_left
    · intro w'
      go_simp
      with_reducible rfl
    rotate_left
    · simp only [Act.put, List.setIfInBounds_toArray, List.set_cons_zero, List.set_cons_succ]
      rfl
    refine pure_ (i := 1) (N := some 51) (v := ?_) (a' := ?_) #[true, true, false, false, false, false, false, false, false, false, false, false, false, false, false, false, false, false] rfl rfl (by kernel_rfl) (fun _ _ _ h => h) (Or.inl ⟨by rfl, ?_⟩) ?_ ?_
    rotate_left
    · intro w'
      go_simp
      with_reducible rfl
    rotate_left
    · simp only [Act.put, List.setIfInBounds_toArray, List.set_cons_zero, List.set_cons_succ]
      rfl
    refine pure_ (i := 2) (N := some 52) (v := ?_) (a' := ?_) #[true, true, true, false, false, false, false, false, false, false, false, false, false, false, false, false, false, false] rfl rfl (by kernel_rfl) (fun _ _ _ h => h) (Or.inl ⟨by rfl, ?_⟩) ?_ ?_
    rotate_left
    · intro w'
      go_simp
      with_reducible rfl
    rotate_left
    · simp only [Act.put, List.setIfInBounds_toArray, List.set_cons_zero, List.set_cons_succ]
      rfl
    refine pure_ (i := 3) (N := some 53) (v := ?_) (a' := ?_) #[true, true, true, true, false, false, false, false, false, false, false, false, false, false, false, false, false, false] rfl rfl (by kernel_rfl) (fun _ _ _ h => h) (Or.inl ⟨by rfl, ?_⟩) ?_ ?_
    rotate_left
    · intro w'
      go_simp
      with_reducible rfl
    rotate_left
    · simp only [Act.put, List.setIfInBounds_toArray, List.set_cons_zero, List.set_cons_succ]
      rfl
    refine pure_ (i := 4) (N := some 54) (v := ?_) (a' := ?_) #[true, true, true, true, true, false, false, false, false, false, false, false, false, false, false, false, false, false] rfl rfl (by kernel_rfl) (fun _ _ _ h => h) (Or.inl ⟨by rfl, ?_⟩) ?_ ?_
    rotate_left
    · intro w'
      go_simp
      with_reducible rfl
    rotate_left
    · simp only [Act.put, List.setIfInBounds_toArray, List.set_cons_zero, List.set_cons_succ]
      rfl
    refine pure_ (i := 5) (N := some 55) (v := ?_) (a' := ?_) #[true, true, true, true, true, true, false, false, false, false, false, false, false, false, false, false, false, false] rfl rfl (by kernel_rfl) (fun _ _ _ h => h) (Or.inl ⟨by rfl, ?_⟩) ?_ ?_
    rotate_left
    · intro w'
      go_simp
      with_reducible rfl
    rotate_left
    · simp only [Act.put, List.setIfInBounds_toArray, List.set_cons_zero, List.set_cons_succ]
      rfl
    refine pure_ (i := 6) (N := some 56) (v := ?_) (a' := ?_) #[true, true, true, true, true, true, true, false, false, false, false, false, false, false, false, false, false, false] rfl rfl (by kernel_rfl) (fun _ _ _ h => h) (Or.inl ⟨by rfl, ?_⟩) ?_ ?_
    rotate_left
    · intro w'
      go_simp
      with_reducible rfl
    rotate_left
    · simp only [Act.put, List.setIfInBounds_toArray, List.set_cons_zero, List.set_cons_succ]
      rfl
    refine take_ (i := 7) (N := some 57) (v := ?_) (a' := ?_) #[true, true, true, true, true, true, true, true, false, false, false, false, false, false, false, false, false, false] rfl rfl (by kernel_rfl) (fun _ _ _ h => h) (Or.inl ⟨by rfl, ?_⟩) hHeld ?_ ?_
    rotate_left
    · rintro w' ⟨s0, s1, s2, s3, s4, s5, s6, s7⟩
      go_simp
      with_reducible rfl
    rotate_left
    · simp only [Act.put, List.setIfInBounds_toArray, List.set_cons_zero, List.set_cons_succ]
      rfl
    refine pure_ (i := 8) (N := some 58) (v := ?_) (a' := ?_) #[true, true, true, true, true, true, true, true, true, false, false, false, false, false, false, false, false, false] rfl rfl (by kernel_rfl) (fun _ _ _ h => h) (Or.inl ⟨by rfl, ?_⟩) ?_ ?_
    rotate_left
    · intro w'
      go_simp
      with_reducible rfl
    rotate_left
    · simp only [Act.put, List.setIfInBounds_toArray, List.set_cons_zero, List.set_cons_succ]
      rfl
    refine pure_ (i := 9) (N := some 59) (v := ?_) (a' := ?_) #[true, true, true, true, true, true, true, true, true, true, false, false, false, false, false, false, false, false] rfl rfl (by kernel_rfl) (fun _ _ _ h => h) (Or.inl ⟨by rfl, ?_⟩) ?_ ?_
    rotate_left
    · intro w'
      go_simp
      with_reducible rfl
    rotate_left
    · simp only [Act.put, List.setIfInBounds_toArray, List.set_cons_zero, List.set_cons_succ]
      rfl
    refine pure_ (i := 10) (N := some 60) (v := ?_) (a' := ?_) #[true, true, true, true, true, true, true, true, true, true, true, false, false, false, false, false, false, false] rfl rfl (by kernel_rfl) (fun _ _ _ h => h) (Or.inl ⟨by rfl, ?_⟩) ?_ ?_
    rotate_left
    · intro w'
      go_simp
      with_reducible rfl
    rotate_left
    · simp only [Act.put, List.setIfInBounds_toArray, List.set_cons_zero, List.set_cons_succ]
      rfl
    refine take_ (i := 11) (N := some 61) (v := ?_) (a' := ?_) #[true, true, true, true, true, true, true, true, true, true, true, true, false, false, false, false, false, false] rfl rfl (by kernel_rfl) (fun _ _ _ h => h) (Or.inl ⟨by rfl, ?_⟩) hHeld ?_ ?_
    rotate_left
    · rintro w' ⟨s0, s1, s2, s3, s4, s5, s6, s7⟩
      go_simp
      with_reducible rfl
    rotate_left
    · simp only [Act.put, List.setIfInBounds_toArray, List.set_cons_zero, List.set_cons_succ]
      rfl
    refine take_ (i := 13) (N := some 63) (v := ?_) (a' := ?_) #[true, true, true, true, true, true, true, true, true, true, true, true, false, true, false, false, false, false] rfl rfl (by kernel_rfl) (fun _ _ _ h => h) (Or.inl ⟨by rfl, ?_⟩) hHeld ?_ ?_
    rotate_left
    · rintro w' ⟨s0, s1, s2, s3, s4, s5, s6, s7⟩
      go_simp
      with_reducible rfl
    rotate_left
    · simp only [Act.put, List.setIfInBounds_toArray, List.set_cons_zero, List.set_cons_succ]
      rfl
    refine one_ (i := 12) (N := some 62) #[true, true, true, true, true, true, true, true, true, true, true, true, true, true, false, false, false, false] rfl rfl (by kernel_rfl) (by decide) (fun K hK => ?_)
    refine goes_ Tryz.func32 (by kernel_rfl) rfl #[.agg (tmA (seqT t1 t2 t3) A4 c4)] (by rfl) rfl rfl (by (try simp only [List.map_toArray, List.map_cons, List.map_nil]); first | done | rfl) ?_
    refine (KS1.out W1 hD).mono ?_
    rintro e w9 ⟨rfl, hb⟩
    have hb9 := hD.trans (hb.mono hD.size)
    refine ⟨_, rfl, ?_⟩
    refine hK.out _ _ (hS _ hb9) (fun hHeld => ?_)
    clear hK K
    refine norm_ (a' := ?_) ?_ ?_
    rotate_left
    · show Act.put _ (some 62) _ = _
      simp only [Act.put, List.setIfInBounds_toArray, List.set_cons_zero, List.set_cons_succ]
      rfl
    refine one_ (i := 14) (N := some 64) #[true, true, true, true, true, true, true, true, true, true, true, true, true, true, true, false, false, false] rfl rfl (by kernel_rfl) (by decide) (fun K hK => ?_)
    refine goes_ Tryz.func32 (by kernel_rfl) rfl #[.agg #[.int .i64 13, .string ⟨#[]⟩, .int .i64 0, .slice (some ⟨w8.heap.size + 1 + 1, 0, none⟩) 2 2]] (by rfl) rfl rfl (by (try simp only [List.map_toArray, List.map_cons, List.map_nil]); first | done | rfl) ?_
    refine (KS2.out w9 hb9).mono ?_
    rintro e w10 ⟨rfl, hb2⟩
    have hb10 := hb9.trans (hb2.mono hb9.size)
    refine ⟨_, rfl, ?_⟩
    refine hK.out _ _ (hS _ hb10) (fun hHeld => ?_)
    clear hK K
    refine norm_ (a' := ?_) ?_ ?_
    rotate_left
    · show Act.put _ (some 64) _ = _
      simp only [Act.put, List.setIfInBounds_toArray, List.set_cons_zero, List.set_cons_succ]
      rfl
    refine pure_ (i := 15) (N := some 65) (v := ?_) (a' := ?_) #[true, true, true, true, true, true, true, true, true, true, true, true, true, true, true, true, false, false] rfl rfl (by kernel_rfl) (fun _ _ _ h => h) (Or.inl ⟨by rfl, ?_⟩) ?_ ?_
    rotate_left
    · intro w'
      go_simp
      with_reducible rfl
    rotate_left
    · simp only [Act.put, List.setIfInBounds_toArray, List.set_cons_zero, List.set_cons_succ]
      rfl
    refine pure_ (i := 16) (N := some 66) (v := ?_) (a' := ?_) #[true, true, true, true, true, true, true, true, true, true, true, true, true, true, true, true, true, false] rfl rfl (by kernel_rfl) (fun _ _ _ h => h) (Or.inl ⟨by rfl, ?_⟩) ?_ ?_
    rotate_left
    · intro w'
      go_simp
      with_reducible rfl
    rotate_left
    · simp only [Act.put, List.setIfInBounds_toArray, List.set_cons_zero, List.set_cons_succ]
      rfl
    refine pure_ (i := 17) (N := some 6) (v := ?_) (a' := ?_) #[true, true, true, true, true, true, true, true, true, true, true, true, true, true, true, true, true, true] rfl rfl (by kernel_rfl) (fun _ _ _ h => h) (Or.inl ⟨by rfl, ?_⟩) ?_ ?_
    rotate_left
    · intro w'
      go_simp
      with_reducible rfl
    rotate_left
    · simp only [Act.put, List.setIfInBounds_toArray, List.set_cons_zero, List.set_cons_succ]
      rfl
    refine done_ (by kernel_rfl) ?_
    have HB := Lib.hid (HB.out.trans (hb10.mono HB.out.size))
    clear hHeld hD hb hb9 hb2 hb10 hS
    go_wp2_with fail
    go_ret
    exact ⟨rfl, HB.out⟩
end Go.Proofs.YtchekgnacodolaaGreatDoor.X

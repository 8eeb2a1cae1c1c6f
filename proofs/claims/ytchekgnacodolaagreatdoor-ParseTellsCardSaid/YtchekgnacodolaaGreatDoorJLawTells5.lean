/- ParseTells: of any tokens, any text all is told as the chapter says. -/
import Derived.Deep.RegionHeld3
import Derived.Test.YtchekgnacodolaaGreatDoorJ29
import Derived.Test.YtchekgnacodolaaGreatDoorJ30
set_option maxHeartbeats 8000000
set_option maxRecDepth 100000
namespace Go.Proofs.YtchekgnacodolaaGreatDoor.X
open Go.RowKit Go.Proofs.YtchekgnacodolaaGreatDoorW.PrintWords Go.Proofs.YtchekgnacodolaaGreatDoorW.PrintLast Go.Proofs.YtchekgnacodolaaGreatDoorW.PrintMore
set_option linter.unusedSimpArgs false
set_option linter.unusedVariables false
theorem lawTells5 (w : World) (hG : GL w) (A : Option Addr) (c : Nat) (l : List TokT) (hr : Reads w A c l) (hs : ∀ t ∈ l, t.f1.size ≤ 281474976710656) (s : List UInt8) (hl : s.length ≤ 9223372036854775807) :
  Calls Tryz.prog 3 #[.slice A l.length c, .string (B s)] w fun e w' => e = .returned (.bool true) ∧ Below w.heap.size w w' := by
 have K := Lib.hid (exam5C w hG)
 have HG := Lib.hid hG
 have HR := Lib.hid hr
 have hu := ext_take s 3000
 have hul : (s.take 3000).length ≤ 9223372036854775807 := by rw [List.length_take]; omega
 obtain ⟨u, hu'⟩ : ∃ u, s.take 3000 = u := ⟨_, rfl⟩
 rw [hu'] at hu hul
 simp only [Int.cast_ofNat_Int] at hu
 have KP := Lib.hid (fun w hG => parseC u hul w hG)
 have KQ := Lib.hid (fun w => parseFC u hul w)
 have hps := parseR_size u
 obtain ⟨x, hx⟩ : ∃ x, (B s).extract 0 (min ((B s).size : Int) 3000).toNat = x := ⟨_, rfl⟩
 rw [hx] at hu
 rw [← hu] at KP KQ
 obtain ⟨m, hm⟩ : ∃ m : Nat, m = min l.length 1000 := ⟨_, rfl⟩
 have hmi : min (l.length : Int) 1000 = (m : Int) := by omega
 have hmc : decide ((m : Int) ≤ (c : Int)) = true := by rw [decide_eq_true_eq]; have := hr.2; omega
 have hmc2 : (m ≤ c) = True := eq_true (by have := hr.2; omega)
 have hmc3 : (c < m) = False := eq_false (by have := hr.2; omega)
 have hLl : (l.take m).length = m := by rw [List.length_take, hm]; omega
 have hRt : ∀ W, Below w.heap.size w W → Reads W A c (l.take m) := fun W hb => ⟨Kd.C_take (HR.out.below hb).1 (by rw [hm]; omega), by have := HR.out.2; rw [hLl, hm]; omega⟩
 have hSt : ∀ t ∈ l.take m, t.f1.size ≤ 281474976710656 := fun t ht => hs t (List.mem_of_mem_take ht)
 have hm1 : m ≤ 1000 := by omega
 obtain ⟨L, hL⟩ : ∃ L, l.take m = L := ⟨_, rfl⟩
 rw [hL] at hLl hRt hSt
 have KT := fun W hG hr => toksC L A c (by omega) hSt W hG hr
 have KF := fun W hr => refToksC L (by omega) A c W hr
 have KU := fun A c W hr => toksFC L A c (by omega) W hr
 have hts := toksR_size L
 rw [hLl] at KT KF KU
 generalize hta : toksR L = ra at *
 generalize htc : parseR u = rc at *
 obtain ⟨ta, na⟩ := ra
 obtain ⟨tc, nc⟩ := rc
 have KT := Lib.hid KT
 have KF := Lib.hid KF
 have KU := Lib.hid KU
 have KP := KP
 have HRt := Lib.hid hRt
 have HLL := Lib.hid hLl
 have hna : (na == na) = true := beq_self_eq_true _
 have hnc : (nc == nc) = true := beq_self_eq_true _
 have KA := Lib.hid (fun vt w h => refTermC ta hts vt w h)
 have KC := Lib.hid (fun vt w h => refTermC tc hps vt w h)
 have KB := Lib.hid (fun v1 v2 w h1 h2 => sameFC ta v1 v2 w h1 h2)
 have KD := Lib.hid (fun v1 v2 w h1 h2 => sameFC tc v1 v2 w h1 h2)
 clear hu' hu hul hG hr hm hLl hRt hSt hL hta htc hts hps hs
 go_enter Tryz.func3, Tryz.ntmps3
 go_wp2_with fail
 refine K.out.mono ?_
 rintro e w1 ⟨rfl, hb⟩
 have HG := Lib.hid (HG.out.below hb)
 have HB := Lib.hid hb
 have KT := Lib.hid (KT.out _ HG.out (HRt.out _ hb))
 clear hb
 go_wp2_with fail
 refine KT.out.mono ?_
 rintro e w2 hT
 obtain ⟨A2, c2, rfl, hv, hb⟩ := hT.open
 have hb := told_lay hb (tmO ta A2 c2)
 have V6 := Lib.hid (hv.below (zqb (Below.refl _ _) (tmO ta A2 c2)))
 have O6 := Lib.hid (Own.new w2 #[.int .i64 ta.f0, .string ta.f1, .int .i64 ta.f2, .slice A2 ta.f3.length c2] 26)
 have HG := Lib.hid (HG.out.below hb)
 have HB := Lib.hid (HB.out.trans (hb.mono HB.out.size))
 have KF := Lib.hid (KF.out _ (HRt.out _ HB.out))
 clear hb hv hT
 go_wp2_with fail
 refine KF.out.mono ?_
 rintro e w3 ⟨A3, c3, rfl, hr, hb⟩
 have V6 := Lib.hid (V6.out.below hb)
 have O6 := Lib.hid (O6.out.keep hb)
 have HG := Lib.hid (HG.out.below hb)
 have HB := Lib.hid (HB.out.trans (hb.mono HB.out.size))
 have KU := Lib.hid (KU.out A3 c3 _ hr)
 clear hb hr
 go_wp2_with fail
 refine KU.out.mono ?_
 rintro e w4 hT
 obtain ⟨A4, c4, rfl, hv, hb⟩ := hT.open
 have hb := told_lay hb (.cells (cellsF (toR ta) A4 c4) 32)
 have V8 := Lib.hid (hv.below (zqb (Below.refl _ _) (.cells (cellsF (toR ta) A4 c4) 32)))
 have O8 := Lib.hid (Own.new w4 (cellsF (toR ta) A4 c4) 32)
 have V6 := Lib.hid (V6.out.below hb)
 have O6 := Lib.hid (O6.out.keep hb)
 have HG := Lib.hid (HG.out.below hb)
 have HB := Lib.hid (HB.out.trans (hb.mono HB.out.size))
 have KP := Lib.hid (KP.out _ HG.out)
 clear hb hv hT
 go_wp2_with fail
 refine KP.out.mono ?_
 rintro e w5 hT
 obtain ⟨A5, c5, rfl, hv, hb⟩ := hT.open
 have hb := told_lay hb (tmO tc A5 c5)
 have V10 := Lib.hid (hv.below (zqb (Below.refl _ _) (tmO tc A5 c5)))
 have O10 := Lib.hid (Own.new w5 #[.int .i64 tc.f0, .string tc.f1, .int .i64 tc.f2, .slice A5 tc.f3.length c5] 26)
 have V6 := Lib.hid (V6.out.below hb)
 have O6 := Lib.hid (O6.out.keep hb)
 have V8 := Lib.hid (V8.out.below hb)
 have O8 := Lib.hid (O8.out.keep hb)
 have HB := Lib.hid (HB.out.trans (hb.mono HB.out.size))
 have KQ := Lib.hid (KQ.out (w5.alloc (tmO tc A5 c5)))
 clear hb hv hT
 go_wp2_with fail
 refine KQ.out.mono ?_
 rintro e w6 hT
 obtain ⟨A6, c6, rfl, hv, hb⟩ := hT.open
 have hb := told_lay hb (.cells (cellsF (toR tc) A6 c6) 32)
 have V12 := Lib.hid (hv.below (zqb (Below.refl _ _) (.cells (cellsF (toR tc) A6 c6) 32)))
 have O12 : Own (w6.alloc (.cells (cellsF (toR tc) A6 c6) 32)) w6.heap.size (cellsF (toR tc) A6 c6) 32 := Own.new w6 (cellsF (toR tc) A6 c6) 32
 have V6 := Lib.hid (V6.out.below hb)
 have O6 := O6.out.keep hb
 have V8 := Lib.hid (V8.out.below hb)
 have O8 := O8.out.keep hb
 have V10 := Lib.hid (V10.out.below hb)
 have O10 := O10.out.keep hb
 have HB := Lib.hid (HB.out.trans (hb.mono HB.out.size))
 clear hb hv hT KP KQ HRt HG HR K KF KU KT
 have hS : ∀ W, Below (w6.alloc (.cells (cellsF (toR tc) A6 c6) 32)).heap.size (w6.alloc (.cells (cellsF (toR tc) A6 c6) 32)) W → (fun w' => w'.cell? ⟨w2.heap.size, 0, none⟩ = some (.int .i64 ta.f0) ∧ w'.cell? ⟨w2.heap.size, 1, none⟩ = some (.string ta.f1) ∧ w'.cell? ⟨w2.heap.size, 2, none⟩ = some (.int .i64 ta.f2) ∧ w'.cell? ⟨w2.heap.size, 3, none⟩ = some (.slice A2 ta.f3.length c2) ∧ w'.cell? ⟨w4.heap.size, 0, none⟩ = some (.int .i64 (toR ta).f0) ∧ w'.cell? ⟨w4.heap.size, 1, none⟩ = some (.string (toR ta).f1) ∧ w'.cell? ⟨w4.heap.size, 2, none⟩ = some (.int .i64 (toR ta).f2) ∧ w'.cell? ⟨w4.heap.size, 3, none⟩ = some (.slice A4 (toR ta).f3.length c4) ∧ w'.cell? ⟨w5.heap.size, 0, none⟩ = some (.int .i64 tc.f0) ∧ w'.cell? ⟨w5.heap.size, 1, none⟩ = some (.string tc.f1) ∧ w'.cell? ⟨w5.heap.size, 2, none⟩ = some (.int .i64 tc.f2) ∧ w'.cell? ⟨w5.heap.size, 3, none⟩ = some (.slice A5 tc.f3.length c5) ∧ w'.cell? ⟨w6.heap.size, 0, none⟩ = some (.int .i64 (toR tc).f0) ∧ w'.cell? ⟨w6.heap.size, 1, none⟩ = some (.string (toR tc).f1) ∧ w'.cell? ⟨w6.heap.size, 2, none⟩ = some (.int .i64 (toR tc).f2) ∧ w'.cell? ⟨w6.heap.size, 3, none⟩ = some (.slice A6 (toR tc).f3.length c6)) W := fun W hb => by
  have o6 : Own _ _ _ _ := zqn O6 hb
  have o8 : Own _ _ _ _ := zqn O8 hb
  have o10 : Own _ _ _ _ := zqn O10 hb
  have o12 : Own _ _ _ _ := zqn O12 hb
  exact ⟨o6.cell 0, o6.cell 1, o6.cell 2, o6.cell 3, o8.cell 0, o8.cell 1, o8.cell 2, o8.cell 3, o10.cell 0, o10.cell 1, o10.cell 2, o10.cell 3, o12.cell 0, o12.cell 1, o12.cell 2, o12.cell 3⟩
 have za0 := O6.cell 0
 have za1 := O6.cell 1
 have za2 := O6.cell 2
 have za3 := O6.cell 3
 have zb0 := O8.cell 0
 have zb1 := O8.cell 1
 have zb2 := O8.cell 2
 have zb3 := O8.cell 3
 have zc0 := O10.cell 0
 have zc1 := O10.cell 1
 have zc2 := O10.cell 2
 have zc3 := O10.cell 3
 have zd0 := O12.cell 0
 have zd1 := O12.cell 1
 have zd2 := O12.cell 2
 have zd3 := O12.cell 3
 clear O6 O8 O10 O12
 go_wp2_with fail
 clear za0 za1 za2 za3 zb0 zb1 zb2 zb3 zc0 zc1 zc2 zc3 zd0 zd1 zd2 zd3
 generalize w6.alloc (.cells (cellsF (toR tc) A6 c6) 32) = W3 at *
 refine start_ (n := 24) (S := fun w' => w'.cell? ⟨w2.heap.size, 0, none⟩ = some (.int .i64 ta.f0) ∧ w'.cell? ⟨w2.heap.size, 1, none⟩ = some (.string ta.f1) ∧ w'.cell? ⟨w2.heap.size, 2, none⟩ = some (.int .i64 ta.f2) ∧ w'.cell? ⟨w2.heap.size, 3, none⟩ = some (.slice A2 ta.f3.length c2) ∧ w'.cell? ⟨w4.heap.size, 0, none⟩ = some (.int .i64 (toR ta).f0) ∧ w'.cell? ⟨w4.heap.size, 1, none⟩ = some (.string (toR ta).f1) ∧ w'.cell? ⟨w4.heap.size, 2, none⟩ = some (.int .i64 (toR ta).f2) ∧ w'.cell? ⟨w4.heap.size, 3, none⟩ = some (.slice A4 (toR ta).f3.length c4) ∧ w'.cell? ⟨w5.heap.size, 0, none⟩ = some (.int .i64 tc.f0) ∧ w'.cell? ⟨w5.heap.size, 1, none⟩ = some (.string tc.f1) ∧ w'.cell? ⟨w5.heap.size, 2, none⟩ = some (.int .i64 tc.f2) ∧ w'.cell? ⟨w5.heap.size, 3, none⟩ = some (.slice A5 tc.f3.length c5) ∧ w'.cell? ⟨w6.heap.size, 0, none⟩ = some (.int .i64 (toR tc).f0) ∧ w'.cell? ⟨w6.heap.size, 1, none⟩ = some (.string (toR tc).f1) ∧ w'.cell? ⟨w6.heap.size, 2, none⟩ = some (.int .i64 (toR tc).f2) ∧ w'.cell? ⟨w6.heap.size, 3, none⟩ = some (.slice A6 (toR tc).f3.length c6)) (ds := [23]) #[false, false, false, false, false, false, false, false, false, false, false, false, false, false, false, false, false, false, false, false, false, false, false, false] (by kernel_rfl) rfl rfl (hS _ (zqx (Below.refl _ _))) (fun hHeld => ?_)
 have hD : Below W3.heap.size W3 W3.drew := zqx (Below.refl _ _)
 generalize W3.drew = W1 at hD hHeld ⊢
 refine pure_ (i := 0) (N := some 48) (v := ?_) (a' := ?_) #[true, false, false, false, false, false, false, false, false, false, false, false, false, false, false, false, false, false, false, false, false, false, false, false] rfl rfl (by kernel_rfl) (fun _ _ _ h => h) (Or.inl ⟨by rfl, ?_⟩) ?_ ?_
 rotate_left
 ·intro w'
  go_simp
  with_reducible rfl
 rotate_left
 ·simp only [Act.put, List.setIfInBounds_toArray, List.set_cons_zero, List.set_cons_succ]
  rfl
 refine pure_ (i := 1) (N := some 49) (v := ?_) (a' := ?_) #[true, true, false, false, false, false, false, false, false, false, false, false, false, false, false, false, false, false, false, false, false, false, false, false] rfl rfl (by kernel_rfl) (fun _ _ _ h => h) (Or.inl ⟨by rfl, ?_⟩) ?_ ?_
 rotate_left
 ·intro w'
  go_simp
  with_reducible rfl
 rotate_left
 ·simp only [Act.put, List.setIfInBounds_toArray, List.set_cons_zero, List.set_cons_succ]
  rfl
 refine take_ (i := 2) (N := some 50) (v := ?_) (a' := ?_) #[true, true, true, false, false, false, false, false, false, false, false, false, false, false, false, false, false, false, false, false, false, false, false, false] rfl rfl (by kernel_rfl) (fun _ _ _ h => h) (Or.inl ⟨by rfl, ?_⟩) hHeld ?_ ?_
 rotate_left
 ·rintro w' ⟨s0, s1, s2, s3, s4, s5, s6, s7, s8, s9, s10, s11, s12, s13, s14, s15⟩
  go_simp
  with_reducible rfl
 rotate_left
 ·simp only [Act.put, List.setIfInBounds_toArray, List.set_cons_zero, List.set_cons_succ]
  rfl
 refine take_ (i := 4) (N := some 52) (v := ?_) (a' := ?_) #[true, true, true, false, true, false, false, false, false, false, false, false, false, false, false, false, false, false, false, false, false, false, false, false] rfl rfl (by kernel_rfl) (fun _ _ _ h => h) (Or.inl ⟨by rfl, ?_⟩) hHeld ?_ ?_
 rotate_left
 ·rintro w' ⟨s0, s1, s2, s3, s4, s5, s6, s7, s8, s9, s10, s11, s12, s13, s14, s15⟩
  go_simp
  with_reducible rfl
 rotate_left
 ·simp only [Act.put, List.setIfInBounds_toArray, List.set_cons_zero, List.set_cons_succ]
  rfl
 refine one_ (i := 3) (N := some 51) #[true, true, true, true, true, false, false, false, false, false, false, false, false, false, false, false, false, false, false, false, false, false, false, false] rfl rfl (by kernel_rfl) (by decide) (fun K hK => ?_)
 refine goes_ Tryz.func25 (by kernel_rfl) rfl #[.agg #[.int .i64 ta.f0, .string ta.f1, .int .i64 ta.f2, .slice A2 ta.f3.length c2]] (by rfl) rfl rfl (by (try simp only [List.map_toArray, List.map_cons, List.map_nil]); first | done | rfl) ?_
 refine (KA.out _ W1 (V6.out.below hD)).mono ?_
 rintro e w7 ⟨A7, c7, rfl, hv7, hb⟩
 have hb7 := hD.trans (hb.mono hD.size)
 refine ⟨_, rfl, ?_⟩
 refine hK.out _ _ (hS _ hb7) (fun hHeld => ?_)
 clear hK K
 refine norm_ (a' := ?_) ?_ ?_
 rotate_left
 ·show Act.put _ (some 51) _ = _
  simp only [Act.put, List.setIfInBounds_toArray, List.set_cons_zero, List.set_cons_succ]
  rfl
 refine one_ (i := 5) (N := some 53) #[true, true, true, true, true, true, false, false, false, false, false, false, false, false, false, false, false, false, false, false, false, false, false, false] rfl rfl (by kernel_rfl) (by decide) (fun K hK => ?_)
 refine goes_ Tryz.func24 (by kernel_rfl) rfl #[.agg #[.int .i64 (toR ta).f0, .string (toR ta).f1, .int .i64 (toR ta).f2, .slice A7 (toR ta).f3.length c7], .agg #[.int .i64 (toR ta).f0, .string (toR ta).f1, .int .i64 (toR ta).f2, .slice A4 (toR ta).f3.length c4]] (by rfl) rfl rfl (by (try simp only [List.map_toArray, List.map_cons, List.map_nil]); first | done | rfl) ?_
 refine (KB.out _ _ w7 hv7 (V8.out.below hb7)).mono ?_
 rintro e w8 ⟨rfl, hb2⟩
 have hb8 := hb7.trans (hb2.mono hb7.size)
 refine ⟨_, rfl, ?_⟩
 refine hK.out _ _ (hS _ hb8) (fun hHeld => ?_)
 clear hK K
 refine norm_ (a' := ?_) ?_ ?_
 rotate_left
 ·show Act.put _ (some 53) _ = _
  simp only [Act.put, List.setIfInBounds_toArray, List.set_cons_zero, List.set_cons_succ]
  rfl
 refine pure_ (i := 6) (N := some 54) (v := ?_) (a' := ?_) #[true, true, true, true, true, true, true, false, false, false, false, false, false, false, false, false, false, false, false, false, false, false, false, false] rfl rfl (by kernel_rfl) (fun _ _ _ h => h) (Or.inl ⟨by rfl, ?_⟩) ?_ ?_
 rotate_left
 ·intro w'
  go_simp
  with_reducible rfl
 rotate_left
 ·simp only [Act.put, List.setIfInBounds_toArray, List.set_cons_zero, List.set_cons_succ]
  rfl
 refine pure_ (i := 7) (N := some 55) (v := ?_) (a' := ?_) #[true, true, true, true, true, true, true, true, false, false, false, false, false, false, false, false, false, false, false, false, false, false, false, false] rfl rfl (by kernel_rfl) (fun _ _ _ h => h) (Or.inl ⟨by rfl, ?_⟩) ?_ ?_
 rotate_left
 ·intro w'
  go_simp
  with_reducible rfl
 rotate_left
 ·simp only [Act.put, List.setIfInBounds_toArray, List.set_cons_zero, List.set_cons_succ]
  rfl
 refine pure_ (i := 8) (N := some 56) (v := ?_) (a' := ?_) #[true, true, true, true, true, true, true, true, true, false, false, false, false, false, false, false, false, false, false, false, false, false, false, false] rfl rfl (by kernel_rfl) (fun _ _ _ h => h) (Or.inl ⟨by rfl, ?_⟩) ?_ ?_
 rotate_left
 ·intro w'
  go_simp
  with_reducible rfl
 rotate_left
 ·simp only [Act.put, List.setIfInBounds_toArray, List.set_cons_zero, List.set_cons_succ]
  rfl
 refine pure_ (i := 9) (N := some 57) (v := ?_) (a' := ?_) #[true, true, true, true, true, true, true, true, true, true, false, false, false, false, false, false, false, false, false, false, false, false, false, false] rfl rfl (by kernel_rfl) (fun _ _ _ h => h) (Or.inl ⟨by rfl, ?_⟩) ?_ ?_
 rotate_left
 ·intro w'
  go_simp
  with_reducible rfl
 rotate_left
 ·simp only [Act.put, List.setIfInBounds_toArray, List.set_cons_zero, List.set_cons_succ]
  rfl
 refine pure_ (i := 10) (N := some 58) (v := ?_) (a' := ?_) #[true, true, true, true, true, true, true, true, true, true, true, false, false, false, false, false, false, false, false, false, false, false, false, false] rfl rfl (by kernel_rfl) (fun _ _ _ h => h) (Or.inl ⟨by rfl, ?_⟩) ?_ ?_
 rotate_left
 ·intro w'
  go_simp
  with_reducible rfl
 rotate_left
 ·simp only [Act.put, List.setIfInBounds_toArray, List.set_cons_zero, List.set_cons_succ]
  rfl
 refine pure_ (i := 11) (N := some 59) (v := ?_) (a' := ?_) #[true, true, true, true, true, true, true, true, true, true, true, true, false, false, false, false, false, false, false, false, false, false, false, false] rfl rfl (by kernel_rfl) (fun _ _ _ h => h) (Or.inl ⟨by rfl, ?_⟩) ?_ ?_
 rotate_left
 ·intro w'
  go_simp
  with_reducible rfl
 rotate_left
 ·simp only [Act.put, List.setIfInBounds_toArray, List.set_cons_zero, List.set_cons_succ]
  rfl
 refine pure_ (i := 12) (N := some 60) (v := ?_) (a' := ?_) #[true, true, true, true, true, true, true, true, true, true, true, true, true, false, false, false, false, false, false, false, false, false, false, false] rfl rfl (by kernel_rfl) (fun _ _ _ h => h) (Or.inl ⟨by rfl, ?_⟩) ?_ ?_
 rotate_left
 ·intro w'
  go_simp
  with_reducible rfl
 rotate_left
 ·simp only [Act.put, List.setIfInBounds_toArray, List.set_cons_zero, List.set_cons_succ]
  rfl
 refine take_ (i := 13) (N := some 61) (v := ?_) (a' := ?_) #[true, true, true, true, true, true, true, true, true, true, true, true, true, true, false, false, false, false, false, false, false, false, false, false] rfl rfl (by kernel_rfl) (fun _ _ _ h => h) (Or.inl ⟨by rfl, ?_⟩) hHeld ?_ ?_
 rotate_left
 ·rintro w' ⟨s0, s1, s2, s3, s4, s5, s6, s7, s8, s9, s10, s11, s12, s13, s14, s15⟩
  go_simp
  with_reducible rfl
 rotate_left
 ·simp only [Act.put, List.setIfInBounds_toArray, List.set_cons_zero, List.set_cons_succ]
  rfl
 refine take_ (i := 15) (N := some 63) (v := ?_) (a' := ?_) #[true, true, true, true, true, true, true, true, true, true, true, true, true, true, false, true, false, false, false, false, false, false, false, false] rfl rfl (by kernel_rfl) (fun _ _ _ h => h) (Or.inl ⟨by rfl, ?_⟩) hHeld ?_ ?_
 rotate_left
 ·rintro w' ⟨s0, s1, s2, s3, s4, s5, s6, s7, s8, s9, s10, s11, s12, s13, s14, s15⟩
  go_simp
  with_reducible rfl
 rotate_left
 ·simp only [Act.put, List.setIfInBounds_toArray, List.set_cons_zero, List.set_cons_succ]
  rfl
 refine one_ (i := 14) (N := some 62) #[true, true, true, true, true, true, true, true, true, true, true, true, true, true, true, true, false, false, false, false, false, false, false, false] rfl rfl (by kernel_rfl) (by decide) (fun K hK => ?_)
 refine goes_ Tryz.func25 (by kernel_rfl) rfl #[.agg #[.int .i64 tc.f0, .string tc.f1, .int .i64 tc.f2, .slice A5 tc.f3.length c5]] (by rfl) rfl rfl (by (try simp only [List.map_toArray, List.map_cons, List.map_nil]); first | done | rfl) ?_
 refine (KC.out _ w8 (V10.out.below hb8)).mono ?_
 rintro e w9 ⟨A9, c9, rfl, hv9, hb3⟩
 have hb9 := hb8.trans (hb3.mono hb8.size)
 refine ⟨_, rfl, ?_⟩
 refine hK.out _ _ (hS _ hb9) (fun hHeld => ?_)
 clear hK K
 refine norm_ (a' := ?_) ?_ ?_
 rotate_left
 ·show Act.put _ (some 62) _ = _
  simp only [Act.put, List.setIfInBounds_toArray, List.set_cons_zero, List.set_cons_succ]
  rfl
 refine one_ (i := 16) (N := some 64) #[true, true, true, true, true, true, true, true, true, true, true, true, true, true, true, true, true, false, false, false, false, false, false, false] rfl rfl (by kernel_rfl) (by decide) (fun K hK => ?_)
 refine goes_ Tryz.func24 (by kernel_rfl) rfl #[.agg #[.int .i64 (toR tc).f0, .string (toR tc).f1, .int .i64 (toR tc).f2, .slice A9 (toR tc).f3.length c9], .agg #[.int .i64 (toR tc).f0, .string (toR tc).f1, .int .i64 (toR tc).f2, .slice A6 (toR tc).f3.length c6]] (by rfl) rfl rfl (by (try simp only [List.map_toArray, List.map_cons, List.map_nil]); first | done | rfl) ?_
 refine (KD.out _ _ w9 hv9 (V12.out.below hb9)).mono ?_
 rintro e w10 ⟨rfl, hb4⟩
 have hb10 := hb9.trans (hb4.mono hb9.size)
 refine ⟨_, rfl, ?_⟩
 refine hK.out _ _ (hS _ hb10) (fun hHeld => ?_)
 clear hK K
 refine norm_ (a' := ?_) ?_ ?_
 rotate_left
 ·show Act.put _ (some 64) _ = _
  simp only [Act.put, List.setIfInBounds_toArray, List.set_cons_zero, List.set_cons_succ]
  rfl
 refine pure_ (i := 17) (N := some 65) (v := ?_) (a' := ?_) #[true, true, true, true, true, true, true, true, true, true, true, true, true, true, true, true, true, true, false, false, false, false, false, false] rfl rfl (by kernel_rfl) (fun _ _ _ h => h) (Or.inl ⟨by rfl, ?_⟩) ?_ ?_
 rotate_left
 ·intro w'
  go_simp
  with_reducible rfl
 rotate_left
 ·simp only [Act.put, List.setIfInBounds_toArray, List.set_cons_zero, List.set_cons_succ]
  rfl
 refine pure_ (i := 18) (N := some 66) (v := ?_) (a' := ?_) #[true, true, true, true, true, true, true, true, true, true, true, true, true, true, true, true, true, true, true, false, false, false, false, false] rfl rfl (by kernel_rfl) (fun _ _ _ h => h) (Or.inl ⟨by rfl, ?_⟩) ?_ ?_
 rotate_left
 ·intro w'
  go_simp
  with_reducible rfl
 rotate_left
 ·simp only [Act.put, List.setIfInBounds_toArray, List.set_cons_zero, List.set_cons_succ]
  rfl
 refine pure_ (i := 19) (N := some 67) (v := ?_) (a' := ?_) #[true, true, true, true, true, true, true, true, true, true, true, true, true, true, true, true, true, true, true, true, false, false, false, false] rfl rfl (by kernel_rfl) (fun _ _ _ h => h) (Or.inl ⟨by rfl, ?_⟩) ?_ ?_
 rotate_left
 ·intro w'
  go_simp
  with_reducible rfl
 rotate_left
 ·simp only [Act.put, List.setIfInBounds_toArray, List.set_cons_zero, List.set_cons_succ]
  rfl
 refine pure_ (i := 20) (N := some 68) (v := ?_) (a' := ?_) #[true, true, true, true, true, true, true, true, true, true, true, true, true, true, true, true, true, true, true, true, true, false, false, false] rfl rfl (by kernel_rfl) (fun _ _ _ h => h) (Or.inl ⟨by rfl, ?_⟩) ?_ ?_
 rotate_left
 ·intro w'
  go_simp
  with_reducible rfl
 rotate_left
 ·simp only [Act.put, List.setIfInBounds_toArray, List.set_cons_zero, List.set_cons_succ]
  rfl
 refine pure_ (i := 21) (N := some 69) (v := ?_) (a' := ?_) #[true, true, true, true, true, true, true, true, true, true, true, true, true, true, true, true, true, true, true, true, true, true, false, false] rfl rfl (by kernel_rfl) (fun _ _ _ h => h) (Or.inl ⟨by rfl, ?_⟩) ?_ ?_
 rotate_left
 ·intro w'
  go_simp
  with_reducible rfl
 rotate_left
 ·simp only [Act.put, List.setIfInBounds_toArray, List.set_cons_zero, List.set_cons_succ]
  rfl
 refine pure_ (i := 22) (N := some 70) (v := ?_) (a' := ?_) #[true, true, true, true, true, true, true, true, true, true, true, true, true, true, true, true, true, true, true, true, true, true, true, false] rfl rfl (by kernel_rfl) (fun _ _ _ h => h) (Or.inl ⟨by rfl, ?_⟩) ?_ ?_
 rotate_left
 ·intro w'
  go_simp
  with_reducible rfl
 rotate_left
 ·simp only [Act.put, List.setIfInBounds_toArray, List.set_cons_zero, List.set_cons_succ]
  rfl
 refine pure_ (i := 23) (N := some 4) (v := ?_) (a' := ?_) #[true, true, true, true, true, true, true, true, true, true, true, true, true, true, true, true, true, true, true, true, true, true, true, true] rfl rfl (by kernel_rfl) (fun _ _ _ h => h) (Or.inl ⟨by rfl, ?_⟩) ?_ ?_
 rotate_left
 ·intro w'
  go_simp
  with_reducible rfl
 rotate_left
 ·simp only [Act.put, List.setIfInBounds_toArray, List.set_cons_zero, List.set_cons_succ]
  rfl
 refine done_ (by kernel_rfl) ?_
 have HB := Lib.hid (HB.out.trans (hb10.mono HB.out.size))
 clear hHeld hD hb hb7 hb2 hb8 hb3 hb9 hb4 hb10 hS
 go_wp2_with fail
 go_ret
 exact ⟨rfl, HB.out⟩
end Go.Proofs.YtchekgnacodolaaGreatDoor.X

/- ParseApps: one behind another is an application, the first two being taken first; an operation takes applications on both sides. -/
import Derived.Test.YtchekgnacodolaaGreatDoorJ24
namespace Go.Proofs.YtchekgnacodolaaGreatDoor.X
open Go.RowKit Go.Proofs.YtchekgnacodolaaGreatDoorW.PrintWords Go.Proofs.YtchekgnacodolaaGreatDoorW.PrintLast Go.Proofs.YtchekgnacodolaaGreatDoorW.PrintMore
set_option linter.unusedSimpArgs false
set_option linter.unusedVariables false
theorem TmR.kids2 {b : Nat} {w : World} {a a' : Tm} {A A' : Option Addr} {c c' : Nat} {T : TypeId} (k : Int) (nm : ByteArray) (h0 : TmR w a (.agg (tmA a A c))) (h1 : TmR w a' (.agg (tmA a' A' c')))
    (hb : Own w b #[.int .i64 a.f0, .string a.f1, .int .i64 a.f2, .slice A a.f3.length c, .int .i64 a'.f0, .string a'.f1, .int .i64 a'.f2, .slice A' a'.f3.length c'] T) :
    TmR w (tm k nm [a, a']) (.agg #[.int .i64 k, .string nm, .int .i64 0, .slice (some ⟨b, 0, none⟩) 2 2]) := by
  obtain ⟨_, _, e0, hl0, hC0⟩ := h0
  obtain ⟨_, _, e1, hl1, hC1⟩ := h1
  simp only [Value.agg.injEq, Array.mk.injEq, List.cons.injEq, Value.slice.injEq, true_and, and_true] at e0 e1
  obtain ⟨rfl, rfl⟩ := e0
  obtain ⟨rfl, rfl⟩ := e1
  exact ⟨_, 2, rfl, Nat.le_refl _, C_lit hb (Reps.c4 (k26_mk w a hl0 hC0) (Reps.c4 (k26_mk w a' hl1 hC1) (Reps.none _ _))) (by show (2 : Nat) ≤ _; decide)⟩
theorem Own.new3 (w : World) (o o' : Obj) (cs : Array Value) (T : TypeId) : Own (((w.alloc o).alloc o').alloc (.cells cs T)) (w.heap.size + 2) cs T := by
  have e : ((w.alloc o).alloc o').heap.size = w.heap.size + 2 := by simp
  rw [← e]; exact Own.new _ _ _
theorem Own.new4 (w : World) (o o' o2 : Obj) (cs : Array Value) (T : TypeId) : Own ((((w.alloc o).alloc o').alloc o2).alloc (.cells cs T)) (w.heap.size + 3) cs T := by
  have e : (((w.alloc o).alloc o').alloc o2).heap.size = w.heap.size + 3 := by simp
  rw [← e]; exact Own.new _ _ _
theorem join_paren (q : List UInt8) : (⟨#[40]⟩ : ByteArray) ++ B q ++ ⟨#[41]⟩ = B (40 :: (q ++ [41])) := by
  rw [show (⟨#[40]⟩ : ByteArray) = B [40] from rfl, show (⟨#[41]⟩ : ByteArray) = B [41] from rfl, B_append, B_append]; simp
set_option maxRecDepth 100000 in
set_option maxHeartbeats 4000000 in
theorem parenC (t : Tm) (h : Small 6 t) (A : Option Addr) (c : Nat) (w : World) (hv : TmR w t (.agg (tmA t A c))) (hG : GP w) :
    Calls Tryz.prog 33 #[.agg (tmA t A c)] w fun e w' => e = .returned (.string (B (parenL t))) ∧ Below w.heap.size w w' := by
  have hb0 := below_alloc (Below.refl w.heap.size w) (.cells (tmA t A c) 26)
  have B1 := Own.new w (tmA t A c) 26
  have b0 := B1.cell 0
  have b1 := B1.cell 1
  have b2 := B1.cell 2
  have b3 := B1.cell 3
  have K := showR t (small_right h) _ _ (hv.below hb0) (hG.below hb0)
  have hp := print_len (small_right h)
  have HE := Lib.hid (show parenL t = 40 :: (printL (toksT t) ++ [41]) from rfl)
  rw [HE.out]
  generalize printL (toksT t) = q at *
  have HK := Lib.hid K
  have HB := Lib.hid hb0
  have z1 : (9223372036854775807 < 1 + (B q).size) = False := eq_false (by rw [B_size]; omega)
  have z2 : (9223372036854775807 < 1 + (B q).size + 1) = False := eq_false (by rw [B_size]; omega)
  have J := join_paren q
  clear hb0 B1 K hv hG h hp
  go_enter Tryz.func33, Tryz.ntmps33
  go_wp2_with fail
  refine HK.out.mono ?_
  rintro e w2 ⟨rfl, hb⟩
  have HB := Lib.hid (HB.out.trans (hb.mono HB.out.size))
  clear hb
  go_wp2_with fail
  go_ret
  exact ⟨by first | rfl | rw [J] | simp [J], HB.out⟩
set_option maxRecDepth 100000 in
set_option maxHeartbeats 4000000 in
theorem appC (a b : Tm) (A A' : Option Addr) (c c' : Nat) (w : World) (ha : TmR w a (.agg (tmA a A c))) (hb : TmR w b (.agg (tmA b A' c'))) :
    Calls Tryz.prog 34 #[.agg (tmA a A c), .agg (tmA b A' c')] w fun e w' => ∃ A c, e = .returned (.agg (tmA (appT a b) A c)) ∧ TmR w' (appT a b) (.agg (tmA (appT a b) A c)) ∧ Below w.heap.size w w' := by
  have o1 := (Own.new w (tmA a A c) 26).alloc (.cells (tmA b A' c') 26)
  have o2 := Own.new2 w (.cells (tmA a A c) 26) (tmA b A' c') 26
  have hA := below_alloc (below_alloc (Below.refl w.heap.size w) (.cells (tmA a A c) 26)) (.cells (tmA b A' c') 26)
  have Q1 := Lib.hid (ha.below hA)
  have Q2 := Lib.hid (hb.below hA)
  have HA := Lib.hid hA
  have e1 := o1.alloc (.cells zeroV 26)
  have e2 := o2.alloc (.cells zeroV 26)
  have a0 := e1.cell 0
  have a1 := e1.cell 1
  have a2 := e1.cell 2
  have a3 := e1.cell 3
  have b0 := e2.cell 0
  have b1 := e2.cell 1
  have b2 := e2.cell 2
  have b3 := e2.cell 3
  have e3 := Own.new3 w (.cells (tmA a A c) 26) (.cells (tmA b A' c') 26) zeroV 26
  have z := fun o => e3.alloc o
  have z0 := fun o => (z o).cell 0
  have z1 := fun o => (z o).cell 1
  have z2 := fun o => (z o).cell 2
  have z3 := fun o => (z o).cell 3
  have zz := fun o i => (z o).fz i
  have HZ := Lib.hid z
  clear ha hb o1 o2 hA e1 e2 e3 z
  go_enter Tryz.func34, Tryz.ntmps34
  go_wp2_with fail
  refine ret4 (N := w.heap.size + 1 + 1) rfl rfl ((Own.new3 _ _ _ _ _).alloc _) ?_
  have hB2 := fun o o' => below_alloc (below_alloc (Below.refl ((w.alloc (.cells (tmA a A c) 26)).alloc (.cells (tmA b A' c') 26)).heap.size ((w.alloc (.cells (tmA a A c) 26)).alloc (.cells (tmA b A' c') 26))) o) o'
  exact ⟨some ⟨w.heap.size + 1 + 1 + 1, 0, none⟩, 2, rfl, TmR.kids2 4 noName (Q1.out.below (hB2 _ _)) (Q2.out.below (hB2 _ _)) (Own.new4 _ _ _ _ _ _), HA.out.trans ((hB2 _ _).mono HA.out.size)⟩
theorem parseV (s : List UInt8) (hl : s.length ≤ 9223372036854775807) (t : Tm) (n : Int) (h : parseR s = (t, n)) (w : World) (hG : GP w) :
    Calls Tryz.prog 22 #[.string (B s)] w fun e w' => ∃ A c, e = .returned (.tuple #[.agg (tmA t A c), .int .i64 n]) ∧ TmV w.heap.size w' t (.agg (tmA t A c)) ∧ Below w.heap.size w w' := by
  refine (parseC s hl w hG.g).mono ?_
  rw [h]
  rintro e w' ⟨v, rfl, hv, hb⟩
  obtain ⟨A, c, rfl, hl, hC⟩ := hv
  exact ⟨A, c, rfl, ⟨A, c, rfl, hl, hC⟩, hb⟩
theorem twoB (a b : List UInt8) : B a ++ B b = B (a ++ b) := by rw [B_append]
theorem fourB (a b c d : List UInt8) : B a ++ B b ++ B c ++ B d = B (a ++ b ++ c ++ d) := by simp only [B_append]
theorem fiveB (a b c d : List UInt8) : B a ++ B b ++ (⟨#[60]⟩ : ByteArray) ++ B c ++ B d = B (a ++ b ++ [60] ++ c ++ d) := by rw [show (⟨#[60]⟩ : ByteArray) = B [60] from rfl]; simp only [B_append]
theorem lessB (a b c : List UInt8) : B a ++ (⟨#[60]⟩ : ByteArray) ++ B b ++ (⟨#[60]⟩ : ByteArray) ++ B c = B (a ++ [60] ++ b ++ [60] ++ c) := by rw [show (⟨#[60]⟩ : ByteArray) = B [60] from rfl]; simp only [B_append]
set_option maxRecDepth 100000 in
set_option maxHeartbeats 8000000 in
theorem lawPapps (w : World) (hG : GP w) (A1 : Option Addr) (c1 : Nat) (l : List Int) (hr1 : Kd.C (Kd.int .u8) w A1 l.length l) (hc1 : l.length ≤ c1) (hm1 : l.length ≤ maxLen) (hy1 : l.length ≤ 140737488351232) (hw1 : ∀ x ∈ l, (Lit.int .u8 x).wf = true) (A2 : Option Addr) (c2 : Nat) (m : List Int) (hr2 : Kd.C (Kd.int .u8) w A2 m.length m) (hc2 : m.length ≤ c2) (hm2 : m.length ≤ maxLen) (hy2 : m.length ≤ 140737488351232) (hw2 : ∀ x ∈ m, (Lit.int .u8 x).wf = true) (A3 : Option Addr) (c3 : Nat) (n : List Int) (hr3 : Kd.C (Kd.int .u8) w A3 n.length n) (hc3 : n.length ≤ c3) (hm3 : n.length ≤ maxLen) (hy3 : n.length ≤ 140737488351232) (hw3 : ∀ x ∈ n, (Lit.int .u8 x).wf = true) (A4 : Option Addr) (c4 : Nat) (o : List Int) (hr4 : Kd.C (Kd.int .u8) w A4 o.length o) (hc4 : o.length ≤ c4) (hm4 : o.length ≤ maxLen) (hy4 : o.length ≤ 140737488351232) (hw4 : ∀ x ∈ o, (Lit.int .u8 x).wf = true) :
    Calls Tryz.prog 9 #[.slice A1 l.length c1, .slice A2 m.length c2, .slice A3 n.length c3, .slice A4 o.length c4] w fun e w' => e = .returned (.bool true) ∧ Below w.heap.size w w' := by
  obtain ⟨bs1, hbl1, hrb1⟩ := bytes_of hr1 hw1
  rw [← hbl1] at hc1 hy1 ⊢
  have R1 := Lib.hid hrb1
  obtain ⟨t1, ht1⟩ : ∃ t, madeT bs1 = t := ⟨_, rfl⟩
  have hsm1 : Small 6 t1 := ht1 ▸ madeT_small bs1
  have hrt1 := small_right hsm1
  have hmax1 : bs1.length ≤ 9223372036854775807 := by omega
  clear hr1 hw1 hrb1 hm1 hbl1
  obtain ⟨bs2, hbl2, hrb2⟩ := bytes_of hr2 hw2
  rw [← hbl2] at hc2 hy2 ⊢
  have R2 := Lib.hid hrb2
  obtain ⟨t2, ht2⟩ : ∃ t, madeT bs2 = t := ⟨_, rfl⟩
  have hsm2 : Small 6 t2 := ht2 ▸ madeT_small bs2
  have hrt2 := small_right hsm2
  have hmax2 : bs2.length ≤ 9223372036854775807 := by omega
  clear hr2 hw2 hrb2 hm2 hbl2
  obtain ⟨bs3, hbl3, hrb3⟩ := bytes_of hr3 hw3
  rw [← hbl3] at hc3 hy3 ⊢
  have R3 := Lib.hid hrb3
  obtain ⟨t3, ht3⟩ : ∃ t, madeT bs3 = t := ⟨_, rfl⟩
  have hsm3 : Small 6 t3 := ht3 ▸ madeT_small bs3
  have hrt3 := small_right hsm3
  have hmax3 : bs3.length ≤ 9223372036854775807 := by omega
  clear hr3 hw3 hrb3 hm3 hbl3
  obtain ⟨bs4, hbl4, hrb4⟩ := bytes_of hr4 hw4
  rw [← hbl4] at hc4 hy4 ⊢
  have R4 := Lib.hid hrb4
  obtain ⟨t4, ht4⟩ : ∃ t, madeT bs4 = t := ⟨_, rfl⟩
  have hsm4 : Small 6 t4 := ht4 ▸ madeT_small bs4
  have hrt4 := small_right hsm4
  have hmax4 : bs4.length ≤ 9223372036854775807 := by omega
  clear hr4 hw4 hrb4 hm4 hbl4
  have HG := Lib.hid hG
  have HB := Lib.hid (Below.refl w.heap.size w)
  have K := Lib.hid (exam5C w hG.g)
  clear hG
  have F1 := Lib.hid (And.intro ht1 (And.intro hsm1 (And.intro hrt1 (And.intro hc1 hmax1))))
  clear ht1 hsm1 hrt1 hmax1 hy1
  have F2 := Lib.hid (And.intro ht2 (And.intro hsm2 (And.intro hrt2 (And.intro hc2 hmax2))))
  clear ht2 hsm2 hrt2 hmax2 hy2
  have F3 := Lib.hid (And.intro ht3 (And.intro hsm3 (And.intro hrt3 (And.intro hc3 hmax3))))
  clear ht3 hsm3 hrt3 hmax3 hy3
  have F4 := Lib.hid (And.intro ht4 (And.intro hsm4 (And.intro hrt4 (And.intro hc4 hmax4))))
  clear ht4 hsm4 hrt4 hmax4 hy4
  go_enter Tryz.func9, Tryz.ntmps9
  go_wp2_with fail
  refine K.out.mono ?_
  rintro e w1 ⟨rfl, hb⟩
  clear K
  have hmv := hb
  have HG := Lib.hid (HG.out.below hmv)
  have HB := Lib.hid (HB.out.trans (hmv.mono HB.out.size))
  have R1 := Lib.hid (R1.out.below hmv)
  have R2 := Lib.hid (R2.out.below hmv)
  have R3 := Lib.hid (R3.out.below hmv)
  have R4 := Lib.hid (R4.out.below hmv)
  clear hmv
  clear hb
  have K := Lib.hid (madeS A1 c1 bs1 t1 F1.out.1 _ R1.out F1.out.2.2.2.1 F1.out.2.2.2.2)
  go_wp2_with fail
  refine K.out.mono ?_
  rintro e w2 ⟨B1, d1, rfl, hv, hb⟩
  clear K
  have hmv := hb
  have HG := Lib.hid (HG.out.below hmv)
  have HB := Lib.hid (HB.out.trans (hmv.mono HB.out.size))
  have R1 := Lib.hid (R1.out.below hmv)
  have R2 := Lib.hid (R2.out.below hmv)
  have R3 := Lib.hid (R3.out.below hmv)
  have R4 := Lib.hid (R4.out.below hmv)
  clear hmv
  clear hb
  have K := Lib.hid (parenC t1 F1.out.2.1 _ _ _ hv HG.out)
  go_wp2_with fail
  refine K.out.mono ?_
  rintro e w3 ⟨rfl, hb⟩
  clear K
  have hmv := hb
  have HG := Lib.hid (HG.out.below hmv)
  have HB := Lib.hid (HB.out.trans (hmv.mono HB.out.size))
  have R1 := Lib.hid (R1.out.below hmv)
  have R2 := Lib.hid (R2.out.below hmv)
  have R3 := Lib.hid (R3.out.below hmv)
  have R4 := Lib.hid (R4.out.below hmv)
  clear hmv
  clear hb
  clear hv
  have K := Lib.hid (madeS A2 c2 bs2 t2 F2.out.1 _ R2.out F2.out.2.2.2.1 F2.out.2.2.2.2)
  go_wp2_with fail
  refine K.out.mono ?_
  rintro e w4 ⟨B2, d2, rfl, hv, hb⟩
  clear K
  have hmv := hb
  have HG := Lib.hid (HG.out.below hmv)
  have HB := Lib.hid (HB.out.trans (hmv.mono HB.out.size))
  have R1 := Lib.hid (R1.out.below hmv)
  have R2 := Lib.hid (R2.out.below hmv)
  have R3 := Lib.hid (R3.out.below hmv)
  have R4 := Lib.hid (R4.out.below hmv)
  clear hmv
  clear hb
  have K := Lib.hid (parenC t2 F2.out.2.1 _ _ _ hv HG.out)
  go_wp2_with fail
  refine K.out.mono ?_
  rintro e w5 ⟨rfl, hb⟩
  clear K
  have hmv := hb
  have HG := Lib.hid (HG.out.below hmv)
  have HB := Lib.hid (HB.out.trans (hmv.mono HB.out.size))
  have R1 := Lib.hid (R1.out.below hmv)
  have R2 := Lib.hid (R2.out.below hmv)
  have R3 := Lib.hid (R3.out.below hmv)
  have R4 := Lib.hid (R4.out.below hmv)
  clear hmv
  clear hb
  clear hv
  have K := Lib.hid (madeS A3 c3 bs3 t3 F3.out.1 _ R3.out F3.out.2.2.2.1 F3.out.2.2.2.2)
  go_wp2_with fail
  refine K.out.mono ?_
  rintro e w6 ⟨B3, d3, rfl, hv, hb⟩
  clear K
  have hmv := hb
  have HG := Lib.hid (HG.out.below hmv)
  have HB := Lib.hid (HB.out.trans (hmv.mono HB.out.size))
  have R1 := Lib.hid (R1.out.below hmv)
  have R2 := Lib.hid (R2.out.below hmv)
  have R3 := Lib.hid (R3.out.below hmv)
  have R4 := Lib.hid (R4.out.below hmv)
  clear hmv
  clear hb
  have K := Lib.hid (parenC t3 F3.out.2.1 _ _ _ hv HG.out)
  go_wp2_with fail
  refine K.out.mono ?_
  rintro e w7 ⟨rfl, hb⟩
  clear K
  have hmv := hb
  have HG := Lib.hid (HG.out.below hmv)
  have HB := Lib.hid (HB.out.trans (hmv.mono HB.out.size))
  have R1 := Lib.hid (R1.out.below hmv)
  have R2 := Lib.hid (R2.out.below hmv)
  have R3 := Lib.hid (R3.out.below hmv)
  have R4 := Lib.hid (R4.out.below hmv)
  clear hmv
  clear hb
  clear hv
  have K := Lib.hid (madeS A4 c4 bs4 t4 F4.out.1 _ R4.out F4.out.2.2.2.1 F4.out.2.2.2.2)
  go_wp2_with fail
  refine K.out.mono ?_
  rintro e w8 ⟨B4, d4, rfl, hv, hb⟩
  clear K
  have hmv := hb
  have HG := Lib.hid (HG.out.below hmv)
  have HB := Lib.hid (HB.out.trans (hmv.mono HB.out.size))
  have R1 := Lib.hid (R1.out.below hmv)
  have R2 := Lib.hid (R2.out.below hmv)
  have R3 := Lib.hid (R3.out.below hmv)
  have R4 := Lib.hid (R4.out.below hmv)
  clear hmv
  clear hb
  have K := Lib.hid (parenC t4 F4.out.2.1 _ _ _ hv HG.out)
  go_wp2_with fail
  refine K.out.mono ?_
  rintro e w9 ⟨rfl, hb⟩
  clear K
  have hmv := hb
  have HG := Lib.hid (HG.out.below hmv)
  have HB := Lib.hid (HB.out.trans (hmv.mono HB.out.size))
  have R1 := Lib.hid (R1.out.below hmv)
  have R2 := Lib.hid (R2.out.below hmv)
  have R3 := Lib.hid (R3.out.below hmv)
  have R4 := Lib.hid (R4.out.below hmv)
  clear hmv
  clear hb
  clear hv
  have hp1 := parenL_len F1.out.2.1
  have hp2 := parenL_len F2.out.2.1
  have hp3 := parenL_len F3.out.2.1
  have hp4 := parenL_len F4.out.2.1
  obtain ⟨p1, hq1⟩ : ∃ p, parenL t1 = p := ⟨_, rfl⟩
  obtain ⟨p2, hq2⟩ : ∃ p, parenL t2 = p := ⟨_, rfl⟩
  obtain ⟨p3, hq3⟩ : ∃ p, parenL t3 = p := ⟨_, rfl⟩
  obtain ⟨p4, hq4⟩ : ∃ p, parenL t4 = p := ⟨_, rfl⟩
  rw [hq1] at hp1
  rw [hq2] at hp2
  rw [hq3] at hp3
  rw [hq4] at hp4
  simp only [hq1, hq2, hq3, hq4]
  have HQ := Lib.hid (And.intro hq1 (And.intro hq2 (And.intro hq3 hq4)))
  clear hq1 hq2 hq3 hq4
  have R1 := R1
  have hA := below_alloc (Below.refl w9.heap.size w9) (.cells #[.string (B p1), .string (B p2), .string (B p3), .string (B p4)] 9)
  have Oq := Lib.hid (Own.new w9 #[.string (B p1), .string (B p2), .string (B p3), .string (B p4)] 9)
  have hmv := hA
  have HG := Lib.hid (HG.out.below hmv)
  have HB := Lib.hid (HB.out.trans (hmv.mono HB.out.size))
  have R1 := Lib.hid (R1.out.below hmv)
  have R2 := Lib.hid (R2.out.below hmv)
  have R3 := Lib.hid (R3.out.below hmv)
  have R4 := Lib.hid (R4.out.below hmv)
  clear hmv
  clear hA
  have z12 : (9223372036854775807 < (B p1).size + (B p2).size) = False := eq_false (by rw [B_size, B_size]; omega)
  have z123 : (9223372036854775807 < (B p1).size + (B p2).size + (B p3).size) = False := eq_false (by rw [B_size, B_size, B_size]; omega)
  have z1234 : (9223372036854775807 < (B p1).size + (B p2).size + (B p3).size + (B p4).size) = False := eq_false (by rw [B_size, B_size, B_size, B_size]; omega)
  have y1 : (9223372036854775807 < (B p1).size + (B p2).size + 1) = False := eq_false (by rw [B_size, B_size]; omega)
  have y2 : (9223372036854775807 < (B p1).size + (B p2).size + 1 + (B p3).size) = False := eq_false (by rw [B_size, B_size, B_size]; omega)
  have y3 : (9223372036854775807 < (B p1).size + (B p2).size + 1 + (B p3).size + (B p4).size) = False := eq_false (by rw [B_size, B_size, B_size, B_size]; omega)
  have x1 : (9223372036854775807 < (B p1).size + 1) = False := eq_false (by rw [B_size]; omega)
  have x2 : (9223372036854775807 < (B p1).size + 1 + (B p2).size) = False := eq_false (by rw [B_size, B_size]; omega)
  have x3 : (9223372036854775807 < (B p1).size + 1 + (B p2).size + 1) = False := eq_false (by rw [B_size, B_size]; omega)
  have x4 : (9223372036854775807 < (B p1).size + 1 + (B p2).size + 1 + (B p3).size) = False := eq_false (by rw [B_size, B_size, B_size]; omega)
  go_wp2_with fail
  have hS : ∀ W, Below (w9.alloc (.cells #[.string (B p1), .string (B p2), .string (B p3), .string (B p4)] 9)).heap.size (w9.alloc (.cells #[.string (B p1), .string (B p2), .string (B p3), .string (B p4)] 9)) W → (fun w' => w'.cell? ⟨w9.heap.size, 0, none⟩ = some (.string (B p1)) ∧ w'.cell? ⟨w9.heap.size, 1, none⟩ = some (.string (B p2)) ∧ w'.cell? ⟨w9.heap.size, 2, none⟩ = some (.string (B p3)) ∧ w'.cell? ⟨w9.heap.size, 3, none⟩ = some (.string (B p4))) W := fun W hb => by
    have o1 : Own _ _ _ _ := blk_below Oq.out hb
    exact ⟨o1.cell 0, o1.cell 1, o1.cell 2, o1.cell 3⟩
  refine start_ (n := 22) (S := fun w' => w'.cell? ⟨w9.heap.size, 0, none⟩ = some (.string (B p1)) ∧ w'.cell? ⟨w9.heap.size, 1, none⟩ = some (.string (B p2)) ∧ w'.cell? ⟨w9.heap.size, 2, none⟩ = some (.string (B p3)) ∧ w'.cell? ⟨w9.heap.size, 3, none⟩ = some (.string (B p4))) (ds := [20]) #[false, false, false, false, false, false, false, false, false, false, false, false, false, false, false, false, false, false, false, false, false, false] (by kernel_rfl) rfl rfl (hS _ (below_drew (Below.refl _ _))) (fun hHeld => ?_)
  have hD : Below (w9.alloc (.cells #[.string (B p1), .string (B p2), .string (B p3), .string (B p4)] 9)).heap.size (w9.alloc (.cells #[.string (B p1), .string (B p2), .string (B p3), .string (B p4)] 9)) (w9.alloc (.cells #[.string (B p1), .string (B p2), .string (B p3), .string (B p4)] 9)).drew := below_drew (Below.refl _ _)
  generalize (w9.alloc (.cells #[.string (B p1), .string (B p2), .string (B p3), .string (B p4)] 9)).drew = WD at hD hHeld ⊢
  refine pure_ (i := 0) (N := some 36) (v := ?_) (a' := ?_) #[true, false, false, false, false, false, false, false, false, false, false, false, false, false, false, false, false, false, false, false, false, false] rfl rfl (by kernel_rfl) (fun _ _ _ h => h) (Or.inl ⟨by rfl, ?_⟩) ?_ ?_
  rotate_left
  · intro w'
    go_simp
    with_reducible rfl
  rotate_left
  · simp only [Act.put, List.setIfInBounds_toArray, List.set_cons_zero, List.set_cons_succ]
    rfl
  refine pure_ (i := 1) (N := some 37) (v := ?_) (a' := ?_) #[true, true, false, false, false, false, false, false, false, false, false, false, false, false, false, false, false, false, false, false, false, false] rfl rfl (by kernel_rfl) (fun _ _ _ h => h) (Or.inl ⟨by rfl, ?_⟩) ?_ ?_
  rotate_left
  · intro w'
    go_simp
    with_reducible rfl
  rotate_left
  · simp only [Act.put, List.setIfInBounds_toArray, List.set_cons_zero, List.set_cons_succ]
    rfl
  refine take_ (i := 2) (N := some 38) (v := ?_) (a' := ?_) #[true, true, true, false, false, false, false, false, false, false, false, false, false, false, false, false, false, false, false, false, false, false] rfl rfl (by kernel_rfl) (fun _ _ _ h => h) (Or.inl ⟨by rfl, ?_⟩) hHeld ?_ ?_
  rotate_left
  · rintro w' ⟨s0, s1, s2, s3⟩
    go_simp
    with_reducible rfl
  rotate_left
  · simp only [Act.put, List.setIfInBounds_toArray, List.set_cons_zero, List.set_cons_succ]
    rfl
  refine pure_ (i := 3) (N := some 39) (v := ?_) (a' := ?_) #[true, true, true, true, false, false, false, false, false, false, false, false, false, false, false, false, false, false, false, false, false, false] rfl rfl (by kernel_rfl) (fun _ _ _ h => h) (Or.inl ⟨by rfl, ?_⟩) ?_ ?_
  rotate_left
  · intro w'
    go_simp
    with_reducible rfl
  rotate_left
  · simp only [Act.put, List.setIfInBounds_toArray, List.set_cons_zero, List.set_cons_succ]
    rfl
  refine pure_ (i := 4) (N := some 40) (v := ?_) (a' := ?_) #[true, true, true, true, true, false, false, false, false, false, false, false, false, false, false, false, false, false, false, false, false, false] rfl rfl (by kernel_rfl) (fun _ _ _ h => h) (Or.inl ⟨by rfl, ?_⟩) ?_ ?_
  rotate_left
  · intro w'
    go_simp
    with_reducible rfl
  rotate_left
  · simp only [Act.put, List.setIfInBounds_toArray, List.set_cons_zero, List.set_cons_succ]
    rfl
  refine take_ (i := 5) (N := some 41) (v := ?_) (a' := ?_) #[true, true, true, true, true, true, false, false, false, false, false, false, false, false, false, false, false, false, false, false, false, false] rfl rfl (by kernel_rfl) (fun _ _ _ h => h) (Or.inl ⟨by rfl, ?_⟩) hHeld ?_ ?_
  rotate_left
  · rintro w' ⟨s0, s1, s2, s3⟩
    go_simp
    with_reducible rfl
  rotate_left
  · simp only [Act.put, List.setIfInBounds_toArray, List.set_cons_zero, List.set_cons_succ]
    rfl
  refine pure_ (i := 6) (N := some 42) (v := ?_) (a' := ?_) #[true, true, true, true, true, true, true, false, false, false, false, false, false, false, false, false, false, false, false, false, false, false] rfl rfl (by kernel_rfl) (fun _ _ _ h => h) (Or.inl ⟨by rfl, ?_⟩) ?_ ?_
  rotate_left
  · intro w'
    go_simp
    with_reducible rfl
  rotate_left
  · simp only [Act.put, List.setIfInBounds_toArray, List.set_cons_zero, List.set_cons_succ]
    rfl
  refine pure_ (i := 7) (N := some 43) (v := ?_) (a' := ?_) #[true, true, true, true, true, true, true, true, false, false, false, false, false, false, false, false, false, false, false, false, false, false] rfl rfl (by kernel_rfl) (fun _ _ _ h => h) (Or.inl ⟨by rfl, ?_⟩) ?_ ?_
  rotate_left
  · intro w'
    go_simp
    with_reducible rfl
  rotate_left
  · simp only [Act.put, List.setIfInBounds_toArray, List.set_cons_zero, List.set_cons_succ]
    rfl
  refine pure_ (i := 8) (N := some 44) (v := ?_) (a' := ?_) #[true, true, true, true, true, true, true, true, true, false, false, false, false, false, false, false, false, false, false, false, false, false] rfl rfl (by kernel_rfl) (fun _ _ _ h => h) (Or.inl ⟨by rfl, ?_⟩) ?_ ?_
  rotate_left
  · intro w'
    go_simp
    with_reducible rfl
  rotate_left
  · simp only [Act.put, List.setIfInBounds_toArray, List.set_cons_zero, List.set_cons_succ]
    rfl
  refine take_ (i := 9) (N := some 45) (v := ?_) (a' := ?_) #[true, true, true, true, true, true, true, true, true, true, false, false, false, false, false, false, false, false, false, false, false, false] rfl rfl (by kernel_rfl) (fun _ _ _ h => h) (Or.inl ⟨by rfl, ?_⟩) hHeld ?_ ?_
  rotate_left
  · rintro w' ⟨s0, s1, s2, s3⟩
    go_simp
    with_reducible rfl
  rotate_left
  · simp only [Act.put, List.setIfInBounds_toArray, List.set_cons_zero, List.set_cons_succ]
    rfl
  refine pure_ (i := 10) (N := some 46) (v := ?_) (a' := ?_) #[true, true, true, true, true, true, true, true, true, true, true, false, false, false, false, false, false, false, false, false, false, false] rfl rfl (by kernel_rfl) (fun _ _ _ h => h) (Or.inl ⟨by rfl, ?_⟩) ?_ ?_
  rotate_left
  · intro w'
    go_simp
    with_reducible rfl
  rotate_left
  · simp only [Act.put, List.setIfInBounds_toArray, List.set_cons_zero, List.set_cons_succ]
    rfl
  refine pure_ (i := 11) (N := some 47) (v := ?_) (a' := ?_) #[true, true, true, true, true, true, true, true, true, true, true, true, false, false, false, false, false, false, false, false, false, false] rfl rfl (by kernel_rfl) (fun _ _ _ h => h) (Or.inl ⟨by rfl, ?_⟩) ?_ ?_
  rotate_left
  · intro w'
    go_simp
    with_reducible rfl
  rotate_left
  · simp only [Act.put, List.setIfInBounds_toArray, List.set_cons_zero, List.set_cons_succ]
    rfl
  refine pure_ (i := 12) (N := some 48) (v := ?_) (a' := ?_) #[true, true, true, true, true, true, true, true, true, true, true, true, true, false, false, false, false, false, false, false, false, false] rfl rfl (by kernel_rfl) (fun _ _ _ h => h) (Or.inl ⟨by rfl, ?_⟩) ?_ ?_
  rotate_left
  · intro w'
    go_simp
    with_reducible rfl
  rotate_left
  · simp only [Act.put, List.setIfInBounds_toArray, List.set_cons_zero, List.set_cons_succ]
    rfl
  refine take_ (i := 13) (N := some 49) (v := ?_) (a' := ?_) #[true, true, true, true, true, true, true, true, true, true, true, true, true, true, false, false, false, false, false, false, false, false] rfl rfl (by kernel_rfl) (fun _ _ _ h => h) (Or.inl ⟨by rfl, ?_⟩) hHeld ?_ ?_
  rotate_left
  · rintro w' ⟨s0, s1, s2, s3⟩
    go_simp
    with_reducible rfl
  rotate_left
  · simp only [Act.put, List.setIfInBounds_toArray, List.set_cons_zero, List.set_cons_succ]
    rfl
  refine pure_ (i := 14) (N := some 50) (v := ?_) (a' := ?_) #[true, true, true, true, true, true, true, true, true, true, true, true, true, true, true, false, false, false, false, false, false, false] rfl rfl (by kernel_rfl) (fun _ _ _ h => h) (Or.inl ⟨by rfl, ?_⟩) ?_ ?_
  rotate_left
  · intro w'
    go_simp
    with_reducible rfl
  rotate_left
  · simp only [Act.put, List.setIfInBounds_toArray, List.set_cons_zero, List.set_cons_succ]
    rfl
  refine join_ 2 #[true, true, true, true, true, true, true, true, true, true, true, true, true, true, true, true, true, true, true, true, false, false] (fun s : Option Addr × Nat × Nat => [(51, .tuple #[.agg (tmA (appT (appT (appT t1 t2) t3) t4) s.1 s.2.1), .int .i64 0]), (35, .tuple #[.agg (tmA (appT (appT (appT t1 t2) t3) t4) s.1 s.2.1), .int .i64 0]), (52, .agg (tmA (appT (appT (appT t1 t2) t3) t4) s.1 s.2.1)), (53, .int .i64 0), (11, .pointer (some ⟨s.2.2, 0, none⟩))]) (fun s W => Own W s.2.2 zeroV 26 ∧ (w9.alloc (.cells #[.string (B p1), .string (B p2), .string (B p3), .string (B p4)] 9)).heap.size ≤ s.2.2 ∧ (∀ x y z u, TmR ((((W.setCell ⟨s.2.2, 0, none⟩ x).setCell ⟨s.2.2, 1, none⟩ y).setCell ⟨s.2.2, 2, none⟩ z).setCell ⟨s.2.2, 3, none⟩ u) (appT (appT (appT t1 t2) t3) t4) (.agg (tmA (appT (appT (appT t1 t2) t3) t4) s.1 s.2.1))) ∧ Below (w9.alloc (.cells #[.string (B p1), .string (B p2), .string (B p3), .string (B p4)] 9)).heap.size (w9.alloc (.cells #[.string (B p1), .string (B p2), .string (B p3), .string (B p4)] 9)) W) (fun s W hF => ?_) (fun E => ?_)
  rotate_left
  · skip
    have KP := Lib.hid (fun W (hb : Below (w9.alloc (.cells #[.string (B p1), .string (B p2), .string (B p3), .string (B p4)] 9)).heap.size (w9.alloc (.cells #[.string (B p1), .string (B p2), .string (B p3), .string (B p4)] 9)) W) => parseV (p1 ++ p2 ++ p3 ++ p4) (by simp only [List.length_append, List.length_cons, List.length_nil]; omega) (appT (appT (appT t1 t2) t3) t4) 0 (by rw [← HQ.out.1, ← HQ.out.2.1, ← HQ.out.2.2.1, ← HQ.out.2.2.2]; exact apps_ok F1.out.2.1 F2.out.2.1 F3.out.2.1 F4.out.2.1) W (HG.out.below hb))
    rw [← fourB] at KP
    refine two_ (i := 15) (j := 19) (Ni := some 51) (Nj := some 11) #[true, true, true, true, true, true, true, true, true, true, true, true, true, true, true, true, false, false, false, false, false, false] #[true, true, true, true, true, true, true, true, true, true, true, true, true, true, true, false, false, false, false, true, false, false] rfl rfl rfl rfl (by kernel_rfl) (by decide) (by decide) (fun K hK => ?_) (fun K hK => ?_)
    · skip
      refine goes_ Tryz.func22 (by kernel_rfl) rfl #[.string (B p1 ++ B p2 ++ B p3 ++ B p4)] (by rfl) rfl rfl (by (try simp only [List.map_toArray, List.map_cons, List.map_nil]); first | done | rfl) ?_
      refine (KP.out _ hD).mono ?_
      rintro e wn ⟨Ea, ea, rfl, hv, hb⟩
      have hb2 := hD.trans (hb.mono hD.size)
      refine ⟨_, rfl, ?_⟩
      refine hK.out _ _ (hS _ hb2) (fun hHeld => ?_)
      clear hK K
      refine norm_ (a' := ?_) ?_ ?_
      rotate_left
      · show Act.put _ (some 51) _ = _
        simp only [Act.put, List.setIfInBounds_toArray, List.set_cons_zero, List.set_cons_succ]
        rfl
      refine pure_ (i := 16) (N := some 35) (v := ?_) (a' := ?_) #[true, true, true, true, true, true, true, true, true, true, true, true, true, true, true, true, true, false, false, false, false, false] rfl rfl (by kernel_rfl) (fun _ _ _ h => h) (Or.inl ⟨by rfl, ?_⟩) ?_ ?_
      rotate_left
      · intro w'
        go_simp
        with_reducible rfl
      rotate_left
      · simp only [Act.put, List.setIfInBounds_toArray, List.set_cons_zero, List.set_cons_succ]
        rfl
      refine pure_ (i := 17) (N := some 52) (v := ?_) (a' := ?_) #[true, true, true, true, true, true, true, true, true, true, true, true, true, true, true, true, true, true, false, false, false, false] rfl rfl (by kernel_rfl) (fun _ _ _ h => h) (Or.inl ⟨by rfl, ?_⟩) ?_ ?_
      rotate_left
      · intro w'
        go_simp
        with_reducible rfl
      rotate_left
      · simp only [Act.put, List.setIfInBounds_toArray, List.set_cons_zero, List.set_cons_succ]
        rfl
      refine pure_ (i := 18) (N := some 53) (v := ?_) (a' := ?_) #[true, true, true, true, true, true, true, true, true, true, true, true, true, true, true, true, true, true, true, false, false, false] rfl rfl (by kernel_rfl) (fun _ _ _ h => h) (Or.inl ⟨by rfl, ?_⟩) ?_ ?_
      rotate_left
      · intro w'
        go_simp
        with_reducible rfl
      rotate_left
      · simp only [Act.put, List.setIfInBounds_toArray, List.set_cons_zero, List.set_cons_succ]
        rfl
      refine one_ (i := 19) (N := some 11) #[true, true, true, true, true, true, true, true, true, true, true, true, true, true, true, true, true, true, true, true, false, false] rfl rfl (by kernel_rfl) (by decide) (fun K hK => ?_)
      refine value_ (w1 := ?_) (v := ?_) (by rfl) rfl ?_ ?_
      rotate_left 2
      · go_simp
        constructor
        · rfl
        · rfl
      refine hK.out _ _ (hS _ (hb2.trans ((below_alloc (Below.refl _ _) _).mono hb2.size))) (fun hHeld => ?_)
      clear hK K
      exact E (Ea, ea, wn.heap.size) _ ⟨Own.new _ _ _, hb2.size, fun x y z u => hv.R.below (four_set (w3size := 0) (below_alloc (Below.refl _ _) _)), hb2.trans ((below_alloc (Below.refl _ _) _).mono hb2.size)⟩
    · skip
      have hb0 : Below (w9.alloc (.cells #[.string (B p1), .string (B p2), .string (B p3), .string (B p4)] 9)).heap.size (w9.alloc (.cells #[.string (B p1), .string (B p2), .string (B p3), .string (B p4)] 9)) (WD.alloc (.cells zeroV 26)) := hD.trans ((below_alloc (Below.refl _ _) _).mono hD.size)
      refine value_ (w1 := ?_) (v := ?_) (by rfl) rfl ?_ ?_
      rotate_left 2
      · go_simp
        constructor
        · rfl
        · rfl
      refine hK.out _ _ (hS _ hb0) (fun hHeld => ?_)
      clear hK K
      refine norm_ (a' := ?_) ?_ ?_
      rotate_left
      · show Act.put _ (some 11) _ = _
        simp only [Act.put, List.setIfInBounds_toArray, List.set_cons_zero, List.set_cons_succ]
        rfl
      refine one_ (i := 15) (N := some 51) #[true, true, true, true, true, true, true, true, true, true, true, true, true, true, true, true, false, false, false, true, false, false] rfl rfl (by kernel_rfl) (by decide) (fun K hK => ?_)
      refine goes_ Tryz.func22 (by kernel_rfl) rfl #[.string (B p1 ++ B p2 ++ B p3 ++ B p4)] (by rfl) rfl rfl (by (try simp only [List.map_toArray, List.map_cons, List.map_nil]); first | done | rfl) ?_
      refine (KP.out _ hb0).mono ?_
      rintro e wn ⟨Ea, ea, rfl, hv, hb⟩
      have hb2 := hb0.trans (hb.mono hb0.size)
      refine ⟨_, rfl, ?_⟩
      refine hK.out _ _ (hS _ hb2) (fun hHeld => ?_)
      clear hK K
      refine norm_ (a' := ?_) ?_ ?_
      rotate_left
      · show Act.put _ (some 51) _ = _
        simp only [Act.put, List.setIfInBounds_toArray, List.set_cons_zero, List.set_cons_succ]
        rfl
      refine pure_ (i := 16) (N := some 35) (v := ?_) (a' := ?_) #[true, true, true, true, true, true, true, true, true, true, true, true, true, true, true, true, true, false, false, true, false, false] rfl rfl (by kernel_rfl) (fun _ _ _ h => h) (Or.inl ⟨by rfl, ?_⟩) ?_ ?_
      rotate_left
      · intro w'
        go_simp
        with_reducible rfl
      rotate_left
      · simp only [Act.put, List.setIfInBounds_toArray, List.set_cons_zero, List.set_cons_succ]
        rfl
      refine pure_ (i := 17) (N := some 52) (v := ?_) (a' := ?_) #[true, true, true, true, true, true, true, true, true, true, true, true, true, true, true, true, true, true, false, true, false, false] rfl rfl (by kernel_rfl) (fun _ _ _ h => h) (Or.inl ⟨by rfl, ?_⟩) ?_ ?_
      rotate_left
      · intro w'
        go_simp
        with_reducible rfl
      rotate_left
      · simp only [Act.put, List.setIfInBounds_toArray, List.set_cons_zero, List.set_cons_succ]
        rfl
      refine pure_ (i := 18) (N := some 53) (v := ?_) (a' := ?_) #[true, true, true, true, true, true, true, true, true, true, true, true, true, true, true, true, true, true, true, true, false, false] rfl rfl (by kernel_rfl) (fun _ _ _ h => h) (Or.inl ⟨by rfl, ?_⟩) ?_ ?_
      rotate_left
      · intro w'
        go_simp
        with_reducible rfl
      rotate_left
      · simp only [Act.put, List.setIfInBounds_toArray, List.set_cons_zero, List.set_cons_succ]
        rfl
      exact E (Ea, ea, WD.heap.size) _ ⟨blk_below (Own.new _ _ _) hb, hD.size, fun x y z u => (hv.same (four_same (Same.refl _ _) (by simp))).R, hb2⟩
  obtain ⟨Ea, ea, ba⟩ := s
  obtain ⟨hO, hbb, hV, hmv0⟩ := hF
  try dsimp only at hO hbb hV hmv0
  have hHeld := hS W hmv0
  refine norm_ (a' := ?_) ?_ ?_
  rotate_left
  · simp only [putAll, Act.put, List.setIfInBounds_toArray, List.set_cons_zero, List.set_cons_succ]
    rfl
  have xx0 := hO.cell 0
  have xx1 := hO.cell 1
  have xx2 := hO.cell 2
  have xx3 := hO.cell 3
  have xxz := fun i => hO.fz i
  refine last_ (i := 20) (N := none) #[true, true, true, true, true, true, true, true, true, true, true, true, true, true, true, true, true, true, true, true, true, false] rfl rfl (by kernel_rfl) (by decide) (fun K hK => ?_)
  refine skip_ (w1 := ?_) (by rfl) rfl ?_ ?_
  rotate_left
  · go_simp
    rfl
  refine hK.out _ _ ?_
  clear hK K
  refine pure_ (i := 21) (N := some 12) (v := ?_) (a' := ?_) #[true, true, true, true, true, true, true, true, true, true, true, true, true, true, true, true, true, true, true, true, true, true] rfl rfl (by kernel_rfl) (fun _ _ _ h => h) (Or.inl ⟨by rfl, ?_⟩) ?_ ?_
  rotate_left
  · intro w'
    go_simp
    with_reducible rfl
  rotate_left
  · simp only [Act.put, List.setIfInBounds_toArray, List.set_cons_zero, List.set_cons_succ]
    rfl
  refine done_ (by kernel_rfl) ?_
  clear xx0 xx1 xx2 xx3 xxz hHeld hS hD
  have Va := Lib.hid (show TmR ((((W.setCell ⟨ba, 0, none⟩ (.int .i64 ((appT (appT (appT t1 t2) t3) t4)).f0)).setCell ⟨ba, 1, none⟩ (.string ((appT (appT (appT t1 t2) t3) t4)).f1)).setCell ⟨ba, 2, none⟩ (.int .i64 ((appT (appT (appT t1 t2) t3) t4)).f2)).setCell ⟨ba, 3, none⟩ (.slice Ea ((appT (appT (appT t1 t2) t3) t4)).f3.length ea)) (appT (appT (appT t1 t2) t3) t4) (.agg (tmA (appT (appT (appT t1 t2) t3) t4) Ea ea)) from hV _ _ _ _)
  have Oa := Lib.hid (show Own ((((W.setCell ⟨ba, 0, none⟩ (.int .i64 ((appT (appT (appT t1 t2) t3) t4)).f0)).setCell ⟨ba, 1, none⟩ (.string ((appT (appT (appT t1 t2) t3) t4)).f1)).setCell ⟨ba, 2, none⟩ (.int .i64 ((appT (appT (appT t1 t2) t3) t4)).f2)).setCell ⟨ba, 3, none⟩ (.slice Ea ((appT (appT (appT t1 t2) t3) t4)).f3.length ea)) ba (tmA (appT (appT (appT t1 t2) t3) t4) Ea ea) 26 from Own.four hO)
  have hm4 : Below (w9.alloc (.cells #[.string (B p1), .string (B p2), .string (B p3), .string (B p4)] 9)).heap.size (w9.alloc (.cells #[.string (B p1), .string (B p2), .string (B p3), .string (B p4)] 9)) ((((W.setCell ⟨ba, 0, none⟩ (.int .i64 ((appT (appT (appT t1 t2) t3) t4)).f0)).setCell ⟨ba, 1, none⟩ (.string ((appT (appT (appT t1 t2) t3) t4)).f1)).setCell ⟨ba, 2, none⟩ (.int .i64 ((appT (appT (appT t1 t2) t3) t4)).f2)).setCell ⟨ba, 3, none⟩ (.slice Ea ((appT (appT (appT t1 t2) t3) t4)).f3.length ea)) := (((hmv0.setCell hbb _).setCell hbb _).setCell hbb _).setCell hbb _
  have hmv := hm4
  have HG := Lib.hid (HG.out.below hmv)
  have HB := Lib.hid (HB.out.trans (hmv.mono HB.out.size))
  have Oq := Lib.hid (show Own _ _ _ _ from blk_below Oq.out hmv)
  have R1 := Lib.hid (R1.out.below hmv)
  have R2 := Lib.hid (R2.out.below hmv)
  have R3 := Lib.hid (R3.out.below hmv)
  have R4 := Lib.hid (R4.out.below hmv)
  clear hmv
  clear hm4 hmv0 hV hO hbb
  try clear hHeld
  generalize ((((W.setCell ⟨ba, 0, none⟩ (.int .i64 ((appT (appT (appT t1 t2) t3) t4)).f0)).setCell ⟨ba, 1, none⟩ (.string ((appT (appT (appT t1 t2) t3) t4)).f1)).setCell ⟨ba, 2, none⟩ (.int .i64 ((appT (appT (appT t1 t2) t3) t4)).f2)).setCell ⟨ba, 3, none⟩ (.slice Ea ((appT (appT (appT t1 t2) t3) t4)).f3.length ea)) = xa at *
  go_wp2_with fail
  have hS : ∀ W, Below (xa).heap.size (xa) W → (fun w' => w'.cell? ⟨w9.heap.size, 0, none⟩ = some (.string (B p1)) ∧ w'.cell? ⟨w9.heap.size, 1, none⟩ = some (.string (B p2)) ∧ w'.cell? ⟨w9.heap.size, 2, none⟩ = some (.string (B p3)) ∧ w'.cell? ⟨w9.heap.size, 3, none⟩ = some (.string (B p4))) W := fun W hb => by
    have o1 : Own _ _ _ _ := blk_below Oq.out hb
    exact ⟨o1.cell 0, o1.cell 1, o1.cell 2, o1.cell 3⟩
  refine start_ (n := 23) (S := fun w' => w'.cell? ⟨w9.heap.size, 0, none⟩ = some (.string (B p1)) ∧ w'.cell? ⟨w9.heap.size, 1, none⟩ = some (.string (B p2)) ∧ w'.cell? ⟨w9.heap.size, 2, none⟩ = some (.string (B p3)) ∧ w'.cell? ⟨w9.heap.size, 3, none⟩ = some (.string (B p4))) (ds := [21]) #[false, false, false, false, false, false, false, false, false, false, false, false, false, false, false, false, false, false, false, false, false, false, false] (by kernel_rfl) rfl rfl (hS _ (below_drew (Below.refl _ _))) (fun hHeld => ?_)
  have hD : Below (xa).heap.size (xa) (xa).drew := below_drew (Below.refl _ _)
  generalize (xa).drew = WD at hD hHeld ⊢
  refine pure_ (i := 0) (N := some 55) (v := ?_) (a' := ?_) #[true, false, false, false, false, false, false, false, false, false, false, false, false, false, false, false, false, false, false, false, false, false, false] rfl rfl (by kernel_rfl) (fun _ _ _ h => h) (Or.inl ⟨by rfl, ?_⟩) ?_ ?_
  rotate_left
  · intro w'
    go_simp
    with_reducible rfl
  rotate_left
  · simp only [Act.put, List.setIfInBounds_toArray, List.set_cons_zero, List.set_cons_succ]
    rfl
  refine pure_ (i := 1) (N := some 56) (v := ?_) (a' := ?_) #[true, true, false, false, false, false, false, false, false, false, false, false, false, false, false, false, false, false, false, false, false, false, false] rfl rfl (by kernel_rfl) (fun _ _ _ h => h) (Or.inl ⟨by rfl, ?_⟩) ?_ ?_
  rotate_left
  · intro w'
    go_simp
    with_reducible rfl
  rotate_left
  · simp only [Act.put, List.setIfInBounds_toArray, List.set_cons_zero, List.set_cons_succ]
    rfl
  refine take_ (i := 2) (N := some 57) (v := ?_) (a' := ?_) #[true, true, true, false, false, false, false, false, false, false, false, false, false, false, false, false, false, false, false, false, false, false, false] rfl rfl (by kernel_rfl) (fun _ _ _ h => h) (Or.inl ⟨by rfl, ?_⟩) hHeld ?_ ?_
  rotate_left
  · rintro w' ⟨s0, s1, s2, s3⟩
    go_simp
    with_reducible rfl
  rotate_left
  · simp only [Act.put, List.setIfInBounds_toArray, List.set_cons_zero, List.set_cons_succ]
    rfl
  refine pure_ (i := 3) (N := some 58) (v := ?_) (a' := ?_) #[true, true, true, true, false, false, false, false, false, false, false, false, false, false, false, false, false, false, false, false, false, false, false] rfl rfl (by kernel_rfl) (fun _ _ _ h => h) (Or.inl ⟨by rfl, ?_⟩) ?_ ?_
  rotate_left
  · intro w'
    go_simp
    with_reducible rfl
  rotate_left
  · simp only [Act.put, List.setIfInBounds_toArray, List.set_cons_zero, List.set_cons_succ]
    rfl
  refine pure_ (i := 4) (N := some 59) (v := ?_) (a' := ?_) #[true, true, true, true, true, false, false, false, false, false, false, false, false, false, false, false, false, false, false, false, false, false, false] rfl rfl (by kernel_rfl) (fun _ _ _ h => h) (Or.inl ⟨by rfl, ?_⟩) ?_ ?_
  rotate_left
  · intro w'
    go_simp
    with_reducible rfl
  rotate_left
  · simp only [Act.put, List.setIfInBounds_toArray, List.set_cons_zero, List.set_cons_succ]
    rfl
  refine take_ (i := 5) (N := some 60) (v := ?_) (a' := ?_) #[true, true, true, true, true, true, false, false, false, false, false, false, false, false, false, false, false, false, false, false, false, false, false] rfl rfl (by kernel_rfl) (fun _ _ _ h => h) (Or.inl ⟨by rfl, ?_⟩) hHeld ?_ ?_
  rotate_left
  · rintro w' ⟨s0, s1, s2, s3⟩
    go_simp
    with_reducible rfl
  rotate_left
  · simp only [Act.put, List.setIfInBounds_toArray, List.set_cons_zero, List.set_cons_succ]
    rfl
  refine pure_ (i := 6) (N := some 61) (v := ?_) (a' := ?_) #[true, true, true, true, true, true, true, false, false, false, false, false, false, false, false, false, false, false, false, false, false, false, false] rfl rfl (by kernel_rfl) (fun _ _ _ h => h) (Or.inl ⟨by rfl, ?_⟩) ?_ ?_
  rotate_left
  · intro w'
    go_simp
    with_reducible rfl
  rotate_left
  · simp only [Act.put, List.setIfInBounds_toArray, List.set_cons_zero, List.set_cons_succ]
    rfl
  refine pure_ (i := 7) (N := some 62) (v := ?_) (a' := ?_) #[true, true, true, true, true, true, true, true, false, false, false, false, false, false, false, false, false, false, false, false, false, false, false] rfl rfl (by kernel_rfl) (fun _ _ _ h => h) (Or.inl ⟨by rfl, ?_⟩) ?_ ?_
  rotate_left
  · intro w'
    go_simp
    with_reducible rfl
  rotate_left
  · simp only [Act.put, List.setIfInBounds_toArray, List.set_cons_zero, List.set_cons_succ]
    rfl
  refine pure_ (i := 8) (N := some 63) (v := ?_) (a' := ?_) #[true, true, true, true, true, true, true, true, true, false, false, false, false, false, false, false, false, false, false, false, false, false, false] rfl rfl (by kernel_rfl) (fun _ _ _ h => h) (Or.inl ⟨by rfl, ?_⟩) ?_ ?_
  rotate_left
  · intro w'
    go_simp
    with_reducible rfl
  rotate_left
  · simp only [Act.put, List.setIfInBounds_toArray, List.set_cons_zero, List.set_cons_succ]
    rfl
  refine pure_ (i := 9) (N := some 64) (v := ?_) (a' := ?_) #[true, true, true, true, true, true, true, true, true, true, false, false, false, false, false, false, false, false, false, false, false, false, false] rfl rfl (by kernel_rfl) (fun _ _ _ h => h) (Or.inl ⟨by rfl, ?_⟩) ?_ ?_
  rotate_left
  · intro w'
    go_simp
    with_reducible rfl
  rotate_left
  · simp only [Act.put, List.setIfInBounds_toArray, List.set_cons_zero, List.set_cons_succ]
    rfl
  refine take_ (i := 10) (N := some 65) (v := ?_) (a' := ?_) #[true, true, true, true, true, true, true, true, true, true, true, false, false, false, false, false, false, false, false, false, false, false, false] rfl rfl (by kernel_rfl) (fun _ _ _ h => h) (Or.inl ⟨by rfl, ?_⟩) hHeld ?_ ?_
  rotate_left
  · rintro w' ⟨s0, s1, s2, s3⟩
    go_simp
    with_reducible rfl
  rotate_left
  · simp only [Act.put, List.setIfInBounds_toArray, List.set_cons_zero, List.set_cons_succ]
    rfl
  refine pure_ (i := 11) (N := some 66) (v := ?_) (a' := ?_) #[true, true, true, true, true, true, true, true, true, true, true, true, false, false, false, false, false, false, false, false, false, false, false] rfl rfl (by kernel_rfl) (fun _ _ _ h => h) (Or.inl ⟨by rfl, ?_⟩) ?_ ?_
  rotate_left
  · intro w'
    go_simp
    with_reducible rfl
  rotate_left
  · simp only [Act.put, List.setIfInBounds_toArray, List.set_cons_zero, List.set_cons_succ]
    rfl
  refine pure_ (i := 12) (N := some 67) (v := ?_) (a' := ?_) #[true, true, true, true, true, true, true, true, true, true, true, true, true, false, false, false, false, false, false, false, false, false, false] rfl rfl (by kernel_rfl) (fun _ _ _ h => h) (Or.inl ⟨by rfl, ?_⟩) ?_ ?_
  rotate_left
  · intro w'
    go_simp
    with_reducible rfl
  rotate_left
  · simp only [Act.put, List.setIfInBounds_toArray, List.set_cons_zero, List.set_cons_succ]
    rfl
  refine pure_ (i := 13) (N := some 68) (v := ?_) (a' := ?_) #[true, true, true, true, true, true, true, true, true, true, true, true, true, true, false, false, false, false, false, false, false, false, false] rfl rfl (by kernel_rfl) (fun _ _ _ h => h) (Or.inl ⟨by rfl, ?_⟩) ?_ ?_
  rotate_left
  · intro w'
    go_simp
    with_reducible rfl
  rotate_left
  · simp only [Act.put, List.setIfInBounds_toArray, List.set_cons_zero, List.set_cons_succ]
    rfl
  refine take_ (i := 14) (N := some 69) (v := ?_) (a' := ?_) #[true, true, true, true, true, true, true, true, true, true, true, true, true, true, true, false, false, false, false, false, false, false, false] rfl rfl (by kernel_rfl) (fun _ _ _ h => h) (Or.inl ⟨by rfl, ?_⟩) hHeld ?_ ?_
  rotate_left
  · rintro w' ⟨s0, s1, s2, s3⟩
    go_simp
    with_reducible rfl
  rotate_left
  · simp only [Act.put, List.setIfInBounds_toArray, List.set_cons_zero, List.set_cons_succ]
    rfl
  refine pure_ (i := 15) (N := some 70) (v := ?_) (a' := ?_) #[true, true, true, true, true, true, true, true, true, true, true, true, true, true, true, true, false, false, false, false, false, false, false] rfl rfl (by kernel_rfl) (fun _ _ _ h => h) (Or.inl ⟨by rfl, ?_⟩) ?_ ?_
  rotate_left
  · intro w'
    go_simp
    with_reducible rfl
  rotate_left
  · simp only [Act.put, List.setIfInBounds_toArray, List.set_cons_zero, List.set_cons_succ]
    rfl
  refine join_ 2 #[true, true, true, true, true, true, true, true, true, true, true, true, true, true, true, true, true, true, true, true, true, false, false] (fun s : Option Addr × Nat × Nat => [(71, .tuple #[.agg (tmA (tm 12 mLess [appT t1 t2, appT t3 t4]) s.1 s.2.1), .int .i64 0]), (54, .tuple #[.agg (tmA (tm 12 mLess [appT t1 t2, appT t3 t4]) s.1 s.2.1), .int .i64 0]), (72, .agg (tmA (tm 12 mLess [appT t1 t2, appT t3 t4]) s.1 s.2.1)), (73, .int .i64 0), (13, .pointer (some ⟨s.2.2, 0, none⟩))]) (fun s W => Own W s.2.2 zeroV 26 ∧ (xa).heap.size ≤ s.2.2 ∧ (∀ x y z u, TmR ((((W.setCell ⟨s.2.2, 0, none⟩ x).setCell ⟨s.2.2, 1, none⟩ y).setCell ⟨s.2.2, 2, none⟩ z).setCell ⟨s.2.2, 3, none⟩ u) (tm 12 mLess [appT t1 t2, appT t3 t4]) (.agg (tmA (tm 12 mLess [appT t1 t2, appT t3 t4]) s.1 s.2.1))) ∧ Below (xa).heap.size (xa) W) (fun s W hF => ?_) (fun E => ?_)
  rotate_left
  · skip
    have KP := Lib.hid (fun W (hb : Below (xa).heap.size (xa) W) => parseV (p1 ++ p2 ++ [60] ++ p3 ++ p4) (by simp only [List.length_append, List.length_cons, List.length_nil]; omega) (tm 12 mLess [appT t1 t2, appT t3 t4]) 0 (by rw [← HQ.out.1, ← HQ.out.2.1, ← HQ.out.2.2.1, ← HQ.out.2.2.2]; exact less_ok F1.out.2.1 F2.out.2.1 F3.out.2.1 F4.out.2.1) W (HG.out.below hb))
    rw [← fiveB] at KP
    refine two_ (i := 16) (j := 20) (Ni := some 71) (Nj := some 13) #[true, true, true, true, true, true, true, true, true, true, true, true, true, true, true, true, true, false, false, false, false, false, false] #[true, true, true, true, true, true, true, true, true, true, true, true, true, true, true, true, false, false, false, false, true, false, false] rfl rfl rfl rfl (by kernel_rfl) (by decide) (by decide) (fun K hK => ?_) (fun K hK => ?_)
    · skip
      refine goes_ Tryz.func22 (by kernel_rfl) rfl #[.string (B p1 ++ B p2 ++ ⟨#[60]⟩ ++ B p3 ++ B p4)] (by rfl) rfl rfl (by (try simp only [List.map_toArray, List.map_cons, List.map_nil]); first | done | rfl) ?_
      refine (KP.out _ hD).mono ?_
      rintro e wn ⟨Eb, eb, rfl, hv, hb⟩
      have hb2 := hD.trans (hb.mono hD.size)
      refine ⟨_, rfl, ?_⟩
      refine hK.out _ _ (hS _ hb2) (fun hHeld => ?_)
      clear hK K
      refine norm_ (a' := ?_) ?_ ?_
      rotate_left
      · show Act.put _ (some 71) _ = _
        simp only [Act.put, List.setIfInBounds_toArray, List.set_cons_zero, List.set_cons_succ]
        rfl
      refine pure_ (i := 17) (N := some 54) (v := ?_) (a' := ?_) #[true, true, true, true, true, true, true, true, true, true, true, true, true, true, true, true, true, true, false, false, false, false, false] rfl rfl (by kernel_rfl) (fun _ _ _ h => h) (Or.inl ⟨by rfl, ?_⟩) ?_ ?_
      rotate_left
      · intro w'
        go_simp
        with_reducible rfl
      rotate_left
      · simp only [Act.put, List.setIfInBounds_toArray, List.set_cons_zero, List.set_cons_succ]
        rfl
      refine pure_ (i := 18) (N := some 72) (v := ?_) (a' := ?_) #[true, true, true, true, true, true, true, true, true, true, true, true, true, true, true, true, true, true, true, false, false, false, false] rfl rfl (by kernel_rfl) (fun _ _ _ h => h) (Or.inl ⟨by rfl, ?_⟩) ?_ ?_
      rotate_left
      · intro w'
        go_simp
        with_reducible rfl
      rotate_left
      · simp only [Act.put, List.setIfInBounds_toArray, List.set_cons_zero, List.set_cons_succ]
        rfl
      refine pure_ (i := 19) (N := some 73) (v := ?_) (a' := ?_) #[true, true, true, true, true, true, true, true, true, true, true, true, true, true, true, true, true, true, true, true, false, false, false] rfl rfl (by kernel_rfl) (fun _ _ _ h => h) (Or.inl ⟨by rfl, ?_⟩) ?_ ?_
      rotate_left
      · intro w'
        go_simp
        with_reducible rfl
      rotate_left
      · simp only [Act.put, List.setIfInBounds_toArray, List.set_cons_zero, List.set_cons_succ]
        rfl
      refine one_ (i := 20) (N := some 13) #[true, true, true, true, true, true, true, true, true, true, true, true, true, true, true, true, true, true, true, true, true, false, false] rfl rfl (by kernel_rfl) (by decide) (fun K hK => ?_)
      refine value_ (w1 := ?_) (v := ?_) (by rfl) rfl ?_ ?_
      rotate_left 2
      · go_simp
        constructor
        · rfl
        · rfl
      refine hK.out _ _ (hS _ (hb2.trans ((below_alloc (Below.refl _ _) _).mono hb2.size))) (fun hHeld => ?_)
      clear hK K
      exact E (Eb, eb, wn.heap.size) _ ⟨Own.new _ _ _, hb2.size, fun x y z u => hv.R.below (four_set (w3size := 0) (below_alloc (Below.refl _ _) _)), hb2.trans ((below_alloc (Below.refl _ _) _).mono hb2.size)⟩
    · skip
      have hb0 : Below (xa).heap.size (xa) (WD.alloc (.cells zeroV 26)) := hD.trans ((below_alloc (Below.refl _ _) _).mono hD.size)
      refine value_ (w1 := ?_) (v := ?_) (by rfl) rfl ?_ ?_
      rotate_left 2
      · go_simp
        constructor
        · rfl
        · rfl
      refine hK.out _ _ (hS _ hb0) (fun hHeld => ?_)
      clear hK K
      refine norm_ (a' := ?_) ?_ ?_
      rotate_left
      · show Act.put _ (some 13) _ = _
        simp only [Act.put, List.setIfInBounds_toArray, List.set_cons_zero, List.set_cons_succ]
        rfl
      refine one_ (i := 16) (N := some 71) #[true, true, true, true, true, true, true, true, true, true, true, true, true, true, true, true, true, false, false, false, true, false, false] rfl rfl (by kernel_rfl) (by decide) (fun K hK => ?_)
      refine goes_ Tryz.func22 (by kernel_rfl) rfl #[.string (B p1 ++ B p2 ++ ⟨#[60]⟩ ++ B p3 ++ B p4)] (by rfl) rfl rfl (by (try simp only [List.map_toArray, List.map_cons, List.map_nil]); first | done | rfl) ?_
      refine (KP.out _ hb0).mono ?_
      rintro e wn ⟨Eb, eb, rfl, hv, hb⟩
      have hb2 := hb0.trans (hb.mono hb0.size)
      refine ⟨_, rfl, ?_⟩
      refine hK.out _ _ (hS _ hb2) (fun hHeld => ?_)
      clear hK K
      refine norm_ (a' := ?_) ?_ ?_
      rotate_left
      · show Act.put _ (some 71) _ = _
        simp only [Act.put, List.setIfInBounds_toArray, List.set_cons_zero, List.set_cons_succ]
        rfl
      refine pure_ (i := 17) (N := some 54) (v := ?_) (a' := ?_) #[true, true, true, true, true, true, true, true, true, true, true, true, true, true, true, true, true, true, false, false, true, false, false] rfl rfl (by kernel_rfl) (fun _ _ _ h => h) (Or.inl ⟨by rfl, ?_⟩) ?_ ?_
      rotate_left
      · intro w'
        go_simp
        with_reducible rfl
      rotate_left
      · simp only [Act.put, List.setIfInBounds_toArray, List.set_cons_zero, List.set_cons_succ]
        rfl
      refine pure_ (i := 18) (N := some 72) (v := ?_) (a' := ?_) #[true, true, true, true, true, true, true, true, true, true, true, true, true, true, true, true, true, true, true, false, true, false, false] rfl rfl (by kernel_rfl) (fun _ _ _ h => h) (Or.inl ⟨by rfl, ?_⟩) ?_ ?_
      rotate_left
      · intro w'
        go_simp
        with_reducible rfl
      rotate_left
      · simp only [Act.put, List.setIfInBounds_toArray, List.set_cons_zero, List.set_cons_succ]
        rfl
      refine pure_ (i := 19) (N := some 73) (v := ?_) (a' := ?_) #[true, true, true, true, true, true, true, true, true, true, true, true, true, true, true, true, true, true, true, true, true, false, false] rfl rfl (by kernel_rfl) (fun _ _ _ h => h) (Or.inl ⟨by rfl, ?_⟩) ?_ ?_
      rotate_left
      · intro w'
        go_simp
        with_reducible rfl
      rotate_left
      · simp only [Act.put, List.setIfInBounds_toArray, List.set_cons_zero, List.set_cons_succ]
        rfl
      exact E (Eb, eb, WD.heap.size) _ ⟨blk_below (Own.new _ _ _) hb, hD.size, fun x y z u => (hv.same (four_same (Same.refl _ _) (by simp))).R, hb2⟩
  obtain ⟨Eb, eb, bb⟩ := s
  obtain ⟨hO, hbb, hV, hmv0⟩ := hF
  try dsimp only at hO hbb hV hmv0
  have hHeld := hS W hmv0
  refine norm_ (a' := ?_) ?_ ?_
  rotate_left
  · simp only [putAll, Act.put, List.setIfInBounds_toArray, List.set_cons_zero, List.set_cons_succ]
    rfl
  have xx0 := hO.cell 0
  have xx1 := hO.cell 1
  have xx2 := hO.cell 2
  have xx3 := hO.cell 3
  have xxz := fun i => hO.fz i
  refine last_ (i := 21) (N := none) #[true, true, true, true, true, true, true, true, true, true, true, true, true, true, true, true, true, true, true, true, true, true, false] rfl rfl (by kernel_rfl) (by decide) (fun K hK => ?_)
  refine skip_ (w1 := ?_) (by rfl) rfl ?_ ?_
  rotate_left
  · go_simp
    rfl
  refine hK.out _ _ ?_
  clear hK K
  refine pure_ (i := 22) (N := some 14) (v := ?_) (a' := ?_) #[true, true, true, true, true, true, true, true, true, true, true, true, true, true, true, true, true, true, true, true, true, true, true] rfl rfl (by kernel_rfl) (fun _ _ _ h => h) (Or.inl ⟨by rfl, ?_⟩) ?_ ?_
  rotate_left
  · intro w'
    go_simp
    with_reducible rfl
  rotate_left
  · simp only [Act.put, List.setIfInBounds_toArray, List.set_cons_zero, List.set_cons_succ]
    rfl
  refine done_ (by kernel_rfl) ?_
  clear xx0 xx1 xx2 xx3 xxz hHeld hS hD
  have Vb := Lib.hid (show TmR ((((W.setCell ⟨bb, 0, none⟩ (.int .i64 ((tm 12 mLess [appT t1 t2, appT t3 t4])).f0)).setCell ⟨bb, 1, none⟩ (.string ((tm 12 mLess [appT t1 t2, appT t3 t4])).f1)).setCell ⟨bb, 2, none⟩ (.int .i64 ((tm 12 mLess [appT t1 t2, appT t3 t4])).f2)).setCell ⟨bb, 3, none⟩ (.slice Eb ((tm 12 mLess [appT t1 t2, appT t3 t4])).f3.length eb)) (tm 12 mLess [appT t1 t2, appT t3 t4]) (.agg (tmA (tm 12 mLess [appT t1 t2, appT t3 t4]) Eb eb)) from hV _ _ _ _)
  have Ob := Lib.hid (show Own ((((W.setCell ⟨bb, 0, none⟩ (.int .i64 ((tm 12 mLess [appT t1 t2, appT t3 t4])).f0)).setCell ⟨bb, 1, none⟩ (.string ((tm 12 mLess [appT t1 t2, appT t3 t4])).f1)).setCell ⟨bb, 2, none⟩ (.int .i64 ((tm 12 mLess [appT t1 t2, appT t3 t4])).f2)).setCell ⟨bb, 3, none⟩ (.slice Eb ((tm 12 mLess [appT t1 t2, appT t3 t4])).f3.length eb)) bb (tmA (tm 12 mLess [appT t1 t2, appT t3 t4]) Eb eb) 26 from Own.four hO)
  have hm4 : Below (xa).heap.size (xa) ((((W.setCell ⟨bb, 0, none⟩ (.int .i64 ((tm 12 mLess [appT t1 t2, appT t3 t4])).f0)).setCell ⟨bb, 1, none⟩ (.string ((tm 12 mLess [appT t1 t2, appT t3 t4])).f1)).setCell ⟨bb, 2, none⟩ (.int .i64 ((tm 12 mLess [appT t1 t2, appT t3 t4])).f2)).setCell ⟨bb, 3, none⟩ (.slice Eb ((tm 12 mLess [appT t1 t2, appT t3 t4])).f3.length eb)) := (((hmv0.setCell hbb _).setCell hbb _).setCell hbb _).setCell hbb _
  have hmv := hm4
  have HG := Lib.hid (HG.out.below hmv)
  have HB := Lib.hid (HB.out.trans (hmv.mono HB.out.size))
  have Va := Lib.hid (Va.out.below hmv)
  have Oa := Lib.hid (show Own _ _ _ _ from blk_below Oa.out hmv)
  have Oq := Lib.hid (show Own _ _ _ _ from blk_below Oq.out hmv)
  have R1 := Lib.hid (R1.out.below hmv)
  have R2 := Lib.hid (R2.out.below hmv)
  have R3 := Lib.hid (R3.out.below hmv)
  have R4 := Lib.hid (R4.out.below hmv)
  clear hmv
  clear hm4 hmv0 hV hO hbb
  try clear hHeld
  generalize ((((W.setCell ⟨bb, 0, none⟩ (.int .i64 ((tm 12 mLess [appT t1 t2, appT t3 t4])).f0)).setCell ⟨bb, 1, none⟩ (.string ((tm 12 mLess [appT t1 t2, appT t3 t4])).f1)).setCell ⟨bb, 2, none⟩ (.int .i64 ((tm 12 mLess [appT t1 t2, appT t3 t4])).f2)).setCell ⟨bb, 3, none⟩ (.slice Eb ((tm 12 mLess [appT t1 t2, appT t3 t4])).f3.length eb)) = xb at *
  go_wp2_with fail
  have hS : ∀ W, Below (xb).heap.size (xb) W → (fun w' => w'.cell? ⟨w9.heap.size, 0, none⟩ = some (.string (B p1)) ∧ w'.cell? ⟨w9.heap.size, 1, none⟩ = some (.string (B p2)) ∧ w'.cell? ⟨w9.heap.size, 2, none⟩ = some (.string (B p3)) ∧ w'.cell? ⟨w9.heap.size, 3, none⟩ = some (.string (B p4))) W := fun W hb => by
    have o1 : Own _ _ _ _ := blk_below Oq.out hb
    exact ⟨o1.cell 0, o1.cell 1, o1.cell 2, o1.cell 3⟩
  refine start_ (n := 20) (S := fun w' => w'.cell? ⟨w9.heap.size, 0, none⟩ = some (.string (B p1)) ∧ w'.cell? ⟨w9.heap.size, 1, none⟩ = some (.string (B p2)) ∧ w'.cell? ⟨w9.heap.size, 2, none⟩ = some (.string (B p3)) ∧ w'.cell? ⟨w9.heap.size, 3, none⟩ = some (.string (B p4))) (ds := [18]) #[false, false, false, false, false, false, false, false, false, false, false, false, false, false, false, false, false, false, false, false] (by kernel_rfl) rfl rfl (hS _ (below_drew (Below.refl _ _))) (fun hHeld => ?_)
  have hD : Below (xb).heap.size (xb) (xb).drew := below_drew (Below.refl _ _)
  generalize (xb).drew = WD at hD hHeld ⊢
  refine pure_ (i := 0) (N := some 75) (v := ?_) (a' := ?_) #[true, false, false, false, false, false, false, false, false, false, false, false, false, false, false, false, false, false, false, false] rfl rfl (by kernel_rfl) (fun _ _ _ h => h) (Or.inl ⟨by rfl, ?_⟩) ?_ ?_
  rotate_left
  · intro w'
    go_simp
    with_reducible rfl
  rotate_left
  · simp only [Act.put, List.setIfInBounds_toArray, List.set_cons_zero, List.set_cons_succ]
    rfl
  refine pure_ (i := 1) (N := some 76) (v := ?_) (a' := ?_) #[true, true, false, false, false, false, false, false, false, false, false, false, false, false, false, false, false, false, false, false] rfl rfl (by kernel_rfl) (fun _ _ _ h => h) (Or.inl ⟨by rfl, ?_⟩) ?_ ?_
  rotate_left
  · intro w'
    go_simp
    with_reducible rfl
  rotate_left
  · simp only [Act.put, List.setIfInBounds_toArray, List.set_cons_zero, List.set_cons_succ]
    rfl
  refine take_ (i := 2) (N := some 77) (v := ?_) (a' := ?_) #[true, true, true, false, false, false, false, false, false, false, false, false, false, false, false, false, false, false, false, false] rfl rfl (by kernel_rfl) (fun _ _ _ h => h) (Or.inl ⟨by rfl, ?_⟩) hHeld ?_ ?_
  rotate_left
  · rintro w' ⟨s0, s1, s2, s3⟩
    go_simp
    with_reducible rfl
  rotate_left
  · simp only [Act.put, List.setIfInBounds_toArray, List.set_cons_zero, List.set_cons_succ]
    rfl
  refine pure_ (i := 3) (N := some 78) (v := ?_) (a' := ?_) #[true, true, true, true, false, false, false, false, false, false, false, false, false, false, false, false, false, false, false, false] rfl rfl (by kernel_rfl) (fun _ _ _ h => h) (Or.inl ⟨by rfl, ?_⟩) ?_ ?_
  rotate_left
  · intro w'
    go_simp
    with_reducible rfl
  rotate_left
  · simp only [Act.put, List.setIfInBounds_toArray, List.set_cons_zero, List.set_cons_succ]
    rfl
  refine pure_ (i := 4) (N := some 79) (v := ?_) (a' := ?_) #[true, true, true, true, true, false, false, false, false, false, false, false, false, false, false, false, false, false, false, false] rfl rfl (by kernel_rfl) (fun _ _ _ h => h) (Or.inl ⟨by rfl, ?_⟩) ?_ ?_
  rotate_left
  · intro w'
    go_simp
    with_reducible rfl
  rotate_left
  · simp only [Act.put, List.setIfInBounds_toArray, List.set_cons_zero, List.set_cons_succ]
    rfl
  refine pure_ (i := 5) (N := some 80) (v := ?_) (a' := ?_) #[true, true, true, true, true, true, false, false, false, false, false, false, false, false, false, false, false, false, false, false] rfl rfl (by kernel_rfl) (fun _ _ _ h => h) (Or.inl ⟨by rfl, ?_⟩) ?_ ?_
  rotate_left
  · intro w'
    go_simp
    with_reducible rfl
  rotate_left
  · simp only [Act.put, List.setIfInBounds_toArray, List.set_cons_zero, List.set_cons_succ]
    rfl
  refine take_ (i := 6) (N := some 81) (v := ?_) (a' := ?_) #[true, true, true, true, true, true, true, false, false, false, false, false, false, false, false, false, false, false, false, false] rfl rfl (by kernel_rfl) (fun _ _ _ h => h) (Or.inl ⟨by rfl, ?_⟩) hHeld ?_ ?_
  rotate_left
  · rintro w' ⟨s0, s1, s2, s3⟩
    go_simp
    with_reducible rfl
  rotate_left
  · simp only [Act.put, List.setIfInBounds_toArray, List.set_cons_zero, List.set_cons_succ]
    rfl
  refine pure_ (i := 7) (N := some 82) (v := ?_) (a' := ?_) #[true, true, true, true, true, true, true, true, false, false, false, false, false, false, false, false, false, false, false, false] rfl rfl (by kernel_rfl) (fun _ _ _ h => h) (Or.inl ⟨by rfl, ?_⟩) ?_ ?_
  rotate_left
  · intro w'
    go_simp
    with_reducible rfl
  rotate_left
  · simp only [Act.put, List.setIfInBounds_toArray, List.set_cons_zero, List.set_cons_succ]
    rfl
  refine pure_ (i := 8) (N := some 83) (v := ?_) (a' := ?_) #[true, true, true, true, true, true, true, true, true, false, false, false, false, false, false, false, false, false, false, false] rfl rfl (by kernel_rfl) (fun _ _ _ h => h) (Or.inl ⟨by rfl, ?_⟩) ?_ ?_
  rotate_left
  · intro w'
    go_simp
    with_reducible rfl
  rotate_left
  · simp only [Act.put, List.setIfInBounds_toArray, List.set_cons_zero, List.set_cons_succ]
    rfl
  refine pure_ (i := 9) (N := some 84) (v := ?_) (a' := ?_) #[true, true, true, true, true, true, true, true, true, true, false, false, false, false, false, false, false, false, false, false] rfl rfl (by kernel_rfl) (fun _ _ _ h => h) (Or.inl ⟨by rfl, ?_⟩) ?_ ?_
  rotate_left
  · intro w'
    go_simp
    with_reducible rfl
  rotate_left
  · simp only [Act.put, List.setIfInBounds_toArray, List.set_cons_zero, List.set_cons_succ]
    rfl
  refine pure_ (i := 10) (N := some 85) (v := ?_) (a' := ?_) #[true, true, true, true, true, true, true, true, true, true, true, false, false, false, false, false, false, false, false, false] rfl rfl (by kernel_rfl) (fun _ _ _ h => h) (Or.inl ⟨by rfl, ?_⟩) ?_ ?_
  rotate_left
  · intro w'
    go_simp
    with_reducible rfl
  rotate_left
  · simp only [Act.put, List.setIfInBounds_toArray, List.set_cons_zero, List.set_cons_succ]
    rfl
  refine take_ (i := 11) (N := some 86) (v := ?_) (a' := ?_) #[true, true, true, true, true, true, true, true, true, true, true, true, false, false, false, false, false, false, false, false] rfl rfl (by kernel_rfl) (fun _ _ _ h => h) (Or.inl ⟨by rfl, ?_⟩) hHeld ?_ ?_
  rotate_left
  · rintro w' ⟨s0, s1, s2, s3⟩
    go_simp
    with_reducible rfl
  rotate_left
  · simp only [Act.put, List.setIfInBounds_toArray, List.set_cons_zero, List.set_cons_succ]
    rfl
  refine pure_ (i := 12) (N := some 87) (v := ?_) (a' := ?_) #[true, true, true, true, true, true, true, true, true, true, true, true, true, false, false, false, false, false, false, false] rfl rfl (by kernel_rfl) (fun _ _ _ h => h) (Or.inl ⟨by rfl, ?_⟩) ?_ ?_
  rotate_left
  · intro w'
    go_simp
    with_reducible rfl
  rotate_left
  · simp only [Act.put, List.setIfInBounds_toArray, List.set_cons_zero, List.set_cons_succ]
    rfl
  refine join_ 2 #[true, true, true, true, true, true, true, true, true, true, true, true, true, true, true, true, true, true, false, false] (fun s : Option Addr × Nat × Nat => [(88, .tuple #[.agg (tmA zTm s.1 s.2.1), .int .i64 2]), (74, .tuple #[.agg (tmA zTm s.1 s.2.1), .int .i64 2]), (89, .agg (tmA zTm s.1 s.2.1)), (90, .int .i64 2), (15, .pointer (some ⟨s.2.2, 0, none⟩))]) (fun s W => Own W s.2.2 zeroV 26 ∧ (xb).heap.size ≤ s.2.2 ∧ (∀ x y z u, TmR ((((W.setCell ⟨s.2.2, 0, none⟩ x).setCell ⟨s.2.2, 1, none⟩ y).setCell ⟨s.2.2, 2, none⟩ z).setCell ⟨s.2.2, 3, none⟩ u) zTm (.agg (tmA zTm s.1 s.2.1))) ∧ Below (xb).heap.size (xb) W) (fun s W hF => ?_) (fun E => ?_)
  rotate_left
  · skip
    have KP := Lib.hid (fun W (hb : Below (xb).heap.size (xb) W) => parseV (p1 ++ [60] ++ p2 ++ [60] ++ p3) (by simp only [List.length_append, List.length_cons, List.length_nil]; omega) zTm 2 (by rw [← HQ.out.1, ← HQ.out.2.1, ← HQ.out.2.2.1]; exact twice_no F1.out.2.1 F2.out.2.1 F3.out.2.1) W (HG.out.below hb))
    rw [← lessB] at KP
    refine two_ (i := 13) (j := 17) (Ni := some 88) (Nj := some 15) #[true, true, true, true, true, true, true, true, true, true, true, true, true, true, false, false, false, false, false, false] #[true, true, true, true, true, true, true, true, true, true, true, true, true, false, false, false, false, true, false, false] rfl rfl rfl rfl (by kernel_rfl) (by decide) (by decide) (fun K hK => ?_) (fun K hK => ?_)
    · skip
      refine goes_ Tryz.func22 (by kernel_rfl) rfl #[.string (B p1 ++ ⟨#[60]⟩ ++ B p2 ++ ⟨#[60]⟩ ++ B p3)] (by rfl) rfl rfl (by (try simp only [List.map_toArray, List.map_cons, List.map_nil]); first | done | rfl) ?_
      refine (KP.out _ hD).mono ?_
      rintro e wn ⟨Eg, eg, rfl, hv, hb⟩
      have hb2 := hD.trans (hb.mono hD.size)
      refine ⟨_, rfl, ?_⟩
      refine hK.out _ _ (hS _ hb2) (fun hHeld => ?_)
      clear hK K
      refine norm_ (a' := ?_) ?_ ?_
      rotate_left
      · show Act.put _ (some 88) _ = _
        simp only [Act.put, List.setIfInBounds_toArray, List.set_cons_zero, List.set_cons_succ]
        rfl
      refine pure_ (i := 14) (N := some 74) (v := ?_) (a' := ?_) #[true, true, true, true, true, true, true, true, true, true, true, true, true, true, true, false, false, false, false, false] rfl rfl (by kernel_rfl) (fun _ _ _ h => h) (Or.inl ⟨by rfl, ?_⟩) ?_ ?_
      rotate_left
      · intro w'
        go_simp
        with_reducible rfl
      rotate_left
      · simp only [Act.put, List.setIfInBounds_toArray, List.set_cons_zero, List.set_cons_succ]
        rfl
      refine pure_ (i := 15) (N := some 89) (v := ?_) (a' := ?_) #[true, true, true, true, true, true, true, true, true, true, true, true, true, true, true, true, false, false, false, false] rfl rfl (by kernel_rfl) (fun _ _ _ h => h) (Or.inl ⟨by rfl, ?_⟩) ?_ ?_
      rotate_left
      · intro w'
        go_simp
        with_reducible rfl
      rotate_left
      · simp only [Act.put, List.setIfInBounds_toArray, List.set_cons_zero, List.set_cons_succ]
        rfl
      refine pure_ (i := 16) (N := some 90) (v := ?_) (a' := ?_) #[true, true, true, true, true, true, true, true, true, true, true, true, true, true, true, true, true, false, false, false] rfl rfl (by kernel_rfl) (fun _ _ _ h => h) (Or.inl ⟨by rfl, ?_⟩) ?_ ?_
      rotate_left
      · intro w'
        go_simp
        with_reducible rfl
      rotate_left
      · simp only [Act.put, List.setIfInBounds_toArray, List.set_cons_zero, List.set_cons_succ]
        rfl
      refine one_ (i := 17) (N := some 15) #[true, true, true, true, true, true, true, true, true, true, true, true, true, true, true, true, true, true, false, false] rfl rfl (by kernel_rfl) (by decide) (fun K hK => ?_)
      refine value_ (w1 := ?_) (v := ?_) (by rfl) rfl ?_ ?_
      rotate_left 2
      · go_simp
        constructor
        · rfl
        · rfl
      refine hK.out _ _ (hS _ (hb2.trans ((below_alloc (Below.refl _ _) _).mono hb2.size))) (fun hHeld => ?_)
      clear hK K
      exact E (Eg, eg, wn.heap.size) _ ⟨Own.new _ _ _, hb2.size, fun x y z u => hv.R.below (four_set (w3size := 0) (below_alloc (Below.refl _ _) _)), hb2.trans ((below_alloc (Below.refl _ _) _).mono hb2.size)⟩
    · skip
      have hb0 : Below (xb).heap.size (xb) (WD.alloc (.cells zeroV 26)) := hD.trans ((below_alloc (Below.refl _ _) _).mono hD.size)
      refine value_ (w1 := ?_) (v := ?_) (by rfl) rfl ?_ ?_
      rotate_left 2
      · go_simp
        constructor
        · rfl
        · rfl
      refine hK.out _ _ (hS _ hb0) (fun hHeld => ?_)
      clear hK K
      refine norm_ (a' := ?_) ?_ ?_
      rotate_left
      · show Act.put _ (some 15) _ = _
        simp only [Act.put, List.setIfInBounds_toArray, List.set_cons_zero, List.set_cons_succ]
        rfl
      refine one_ (i := 13) (N := some 88) #[true, true, true, true, true, true, true, true, true, true, true, true, true, true, false, false, false, true, false, false] rfl rfl (by kernel_rfl) (by decide) (fun K hK => ?_)
      refine goes_ Tryz.func22 (by kernel_rfl) rfl #[.string (B p1 ++ ⟨#[60]⟩ ++ B p2 ++ ⟨#[60]⟩ ++ B p3)] (by rfl) rfl rfl (by (try simp only [List.map_toArray, List.map_cons, List.map_nil]); first | done | rfl) ?_
      refine (KP.out _ hb0).mono ?_
      rintro e wn ⟨Eg, eg, rfl, hv, hb⟩
      have hb2 := hb0.trans (hb.mono hb0.size)
      refine ⟨_, rfl, ?_⟩
      refine hK.out _ _ (hS _ hb2) (fun hHeld => ?_)
      clear hK K
      refine norm_ (a' := ?_) ?_ ?_
      rotate_left
      · show Act.put _ (some 88) _ = _
        simp only [Act.put, List.setIfInBounds_toArray, List.set_cons_zero, List.set_cons_succ]
        rfl
      refine pure_ (i := 14) (N := some 74) (v := ?_) (a' := ?_) #[true, true, true, true, true, true, true, true, true, true, true, true, true, true, true, false, false, true, false, false] rfl rfl (by kernel_rfl) (fun _ _ _ h => h) (Or.inl ⟨by rfl, ?_⟩) ?_ ?_
      rotate_left
      · intro w'
        go_simp
        with_reducible rfl
      rotate_left
      · simp only [Act.put, List.setIfInBounds_toArray, List.set_cons_zero, List.set_cons_succ]
        rfl
      refine pure_ (i := 15) (N := some 89) (v := ?_) (a' := ?_) #[true, true, true, true, true, true, true, true, true, true, true, true, true, true, true, true, false, true, false, false] rfl rfl (by kernel_rfl) (fun _ _ _ h => h) (Or.inl ⟨by rfl, ?_⟩) ?_ ?_
      rotate_left
      · intro w'
        go_simp
        with_reducible rfl
      rotate_left
      · simp only [Act.put, List.setIfInBounds_toArray, List.set_cons_zero, List.set_cons_succ]
        rfl
      refine pure_ (i := 16) (N := some 90) (v := ?_) (a' := ?_) #[true, true, true, true, true, true, true, true, true, true, true, true, true, true, true, true, true, true, false, false] rfl rfl (by kernel_rfl) (fun _ _ _ h => h) (Or.inl ⟨by rfl, ?_⟩) ?_ ?_
      rotate_left
      · intro w'
        go_simp
        with_reducible rfl
      rotate_left
      · simp only [Act.put, List.setIfInBounds_toArray, List.set_cons_zero, List.set_cons_succ]
        rfl
      exact E (Eg, eg, WD.heap.size) _ ⟨blk_below (Own.new _ _ _) hb, hD.size, fun x y z u => (hv.same (four_same (Same.refl _ _) (by simp))).R, hb2⟩
  obtain ⟨Eg, eg, bg⟩ := s
  obtain ⟨hO, hbb, hV, hmv0⟩ := hF
  try dsimp only at hO hbb hV hmv0
  have hHeld := hS W hmv0
  refine norm_ (a' := ?_) ?_ ?_
  rotate_left
  · simp only [putAll, Act.put, List.setIfInBounds_toArray, List.set_cons_zero, List.set_cons_succ]
    rfl
  have xx0 := hO.cell 0
  have xx1 := hO.cell 1
  have xx2 := hO.cell 2
  have xx3 := hO.cell 3
  have xxz := fun i => hO.fz i
  refine last_ (i := 18) (N := none) #[true, true, true, true, true, true, true, true, true, true, true, true, true, true, true, true, true, true, true, false] rfl rfl (by kernel_rfl) (by decide) (fun K hK => ?_)
  refine skip_ (w1 := ?_) (by rfl) rfl ?_ ?_
  rotate_left
  · go_simp
    rfl
  refine hK.out _ _ ?_
  clear hK K
  refine pure_ (i := 19) (N := some 16) (v := ?_) (a' := ?_) #[true, true, true, true, true, true, true, true, true, true, true, true, true, true, true, true, true, true, true, true] rfl rfl (by kernel_rfl) (fun _ _ _ h => h) (Or.inl ⟨by rfl, ?_⟩) ?_ ?_
  rotate_left
  · intro w'
    go_simp
    with_reducible rfl
  rotate_left
  · simp only [Act.put, List.setIfInBounds_toArray, List.set_cons_zero, List.set_cons_succ]
    rfl
  refine done_ (by kernel_rfl) ?_
  clear xx0 xx1 xx2 xx3 xxz hHeld hS hD
  have Vg := Lib.hid (show TmR ((((W.setCell ⟨bg, 0, none⟩ (.int .i64 (zTm).f0)).setCell ⟨bg, 1, none⟩ (.string (zTm).f1)).setCell ⟨bg, 2, none⟩ (.int .i64 (zTm).f2)).setCell ⟨bg, 3, none⟩ (.slice Eg (zTm).f3.length eg)) zTm (.agg (tmA zTm Eg eg)) from hV _ _ _ _)
  have Og := Lib.hid (show Own ((((W.setCell ⟨bg, 0, none⟩ (.int .i64 (zTm).f0)).setCell ⟨bg, 1, none⟩ (.string (zTm).f1)).setCell ⟨bg, 2, none⟩ (.int .i64 (zTm).f2)).setCell ⟨bg, 3, none⟩ (.slice Eg (zTm).f3.length eg)) bg (tmA zTm Eg eg) 26 from Own.four hO)
  have hm4 : Below (xb).heap.size (xb) ((((W.setCell ⟨bg, 0, none⟩ (.int .i64 (zTm).f0)).setCell ⟨bg, 1, none⟩ (.string (zTm).f1)).setCell ⟨bg, 2, none⟩ (.int .i64 (zTm).f2)).setCell ⟨bg, 3, none⟩ (.slice Eg (zTm).f3.length eg)) := (((hmv0.setCell hbb _).setCell hbb _).setCell hbb _).setCell hbb _
  have hmv := hm4
  have HG := Lib.hid (HG.out.below hmv)
  have HB := Lib.hid (HB.out.trans (hmv.mono HB.out.size))
  have Va := Lib.hid (Va.out.below hmv)
  have Oa := Lib.hid (show Own _ _ _ _ from blk_below Oa.out hmv)
  have Vb := Lib.hid (Vb.out.below hmv)
  have Ob := Lib.hid (show Own _ _ _ _ from blk_below Ob.out hmv)
  have Oq := Lib.hid (show Own _ _ _ _ from blk_below Oq.out hmv)
  have R1 := Lib.hid (R1.out.below hmv)
  have R2 := Lib.hid (R2.out.below hmv)
  have R3 := Lib.hid (R3.out.below hmv)
  have R4 := Lib.hid (R4.out.below hmv)
  clear hmv
  clear hm4 hmv0 hV hO hbb
  try clear hHeld
  generalize ((((W.setCell ⟨bg, 0, none⟩ (.int .i64 (zTm).f0)).setCell ⟨bg, 1, none⟩ (.string (zTm).f1)).setCell ⟨bg, 2, none⟩ (.int .i64 (zTm).f2)).setCell ⟨bg, 3, none⟩ (.slice Eg (zTm).f3.length eg)) = xg at *
  clear z12 z123 z1234 y1 y2 y3 x1 x2 x3 x4
  have K := Lib.hid (madeS A1 c1 bs1 t1 F1.out.1 _ R1.out F1.out.2.2.2.1 F1.out.2.2.2.2)
  go_wp2_with fail
  refine K.out.mono ?_
  rintro e w10 ⟨Mp, mp, rfl, hv, hb⟩
  clear K
  have hmv := hb
  have HG := Lib.hid (HG.out.below hmv)
  have HB := Lib.hid (HB.out.trans (hmv.mono HB.out.size))
  have Va := Lib.hid (Va.out.below hmv)
  have Oa := Lib.hid (show Own _ _ _ _ from blk_below Oa.out hmv)
  have Vb := Lib.hid (Vb.out.below hmv)
  have Ob := Lib.hid (show Own _ _ _ _ from blk_below Ob.out hmv)
  have Vg := Lib.hid (Vg.out.below hmv)
  have Og := Lib.hid (show Own _ _ _ _ from blk_below Og.out hmv)
  have R1 := Lib.hid (R1.out.below hmv)
  have R2 := Lib.hid (R2.out.below hmv)
  have R3 := Lib.hid (R3.out.below hmv)
  have R4 := Lib.hid (R4.out.below hmv)
  clear hmv
  clear hb
  have Vp := Lib.hid hv
  clear hv
  have K := Lib.hid (madeS A2 c2 bs2 t2 F2.out.1 _ R2.out F2.out.2.2.2.1 F2.out.2.2.2.2)
  go_wp2_with fail
  refine K.out.mono ?_
  rintro e w11 ⟨Mq, mq, rfl, hv, hb⟩
  clear K
  have hmv := hb
  have HG := Lib.hid (HG.out.below hmv)
  have HB := Lib.hid (HB.out.trans (hmv.mono HB.out.size))
  have Va := Lib.hid (Va.out.below hmv)
  have Oa := Lib.hid (show Own _ _ _ _ from blk_below Oa.out hmv)
  have Vb := Lib.hid (Vb.out.below hmv)
  have Ob := Lib.hid (show Own _ _ _ _ from blk_below Ob.out hmv)
  have Vg := Lib.hid (Vg.out.below hmv)
  have Og := Lib.hid (show Own _ _ _ _ from blk_below Og.out hmv)
  have Vp := Lib.hid (Vp.out.below hmv)
  have R1 := Lib.hid (R1.out.below hmv)
  have R2 := Lib.hid (R2.out.below hmv)
  have R3 := Lib.hid (R3.out.below hmv)
  have R4 := Lib.hid (R4.out.below hmv)
  clear hmv
  clear hb
  have Vq := Lib.hid hv
  clear hv
  have K := Lib.hid (appC t1 t2 _ _ _ _ _ Vp.out Vq.out)
  go_wp2_with fail
  refine K.out.mono ?_
  rintro e w12 ⟨Mr, mr, rfl, hv, hb⟩
  clear K
  have hmv := hb
  have HG := Lib.hid (HG.out.below hmv)
  have HB := Lib.hid (HB.out.trans (hmv.mono HB.out.size))
  have Va := Lib.hid (Va.out.below hmv)
  have Oa := Lib.hid (show Own _ _ _ _ from blk_below Oa.out hmv)
  have Vb := Lib.hid (Vb.out.below hmv)
  have Ob := Lib.hid (show Own _ _ _ _ from blk_below Ob.out hmv)
  have Vg := Lib.hid (Vg.out.below hmv)
  have Og := Lib.hid (show Own _ _ _ _ from blk_below Og.out hmv)
  have Vp := Lib.hid (Vp.out.below hmv)
  have Vq := Lib.hid (Vq.out.below hmv)
  have R1 := Lib.hid (R1.out.below hmv)
  have R2 := Lib.hid (R2.out.below hmv)
  have R3 := Lib.hid (R3.out.below hmv)
  have R4 := Lib.hid (R4.out.below hmv)
  clear hmv
  clear hb
  have Vr := Lib.hid hv
  clear hv
  have K := Lib.hid (madeS A3 c3 bs3 t3 F3.out.1 _ R3.out F3.out.2.2.2.1 F3.out.2.2.2.2)
  go_wp2_with fail
  refine K.out.mono ?_
  rintro e w13 ⟨Ms, ms, rfl, hv, hb⟩
  clear K
  have hmv := hb
  have HG := Lib.hid (HG.out.below hmv)
  have HB := Lib.hid (HB.out.trans (hmv.mono HB.out.size))
  have Va := Lib.hid (Va.out.below hmv)
  have Oa := Lib.hid (show Own _ _ _ _ from blk_below Oa.out hmv)
  have Vb := Lib.hid (Vb.out.below hmv)
  have Ob := Lib.hid (show Own _ _ _ _ from blk_below Ob.out hmv)
  have Vg := Lib.hid (Vg.out.below hmv)
  have Og := Lib.hid (show Own _ _ _ _ from blk_below Og.out hmv)
  have Vp := Lib.hid (Vp.out.below hmv)
  have Vq := Lib.hid (Vq.out.below hmv)
  have Vr := Lib.hid (Vr.out.below hmv)
  have R1 := Lib.hid (R1.out.below hmv)
  have R2 := Lib.hid (R2.out.below hmv)
  have R3 := Lib.hid (R3.out.below hmv)
  have R4 := Lib.hid (R4.out.below hmv)
  clear hmv
  clear hb
  have Vs := Lib.hid hv
  clear hv
  have K := Lib.hid (appC (appT t1 t2) t3 _ _ _ _ _ Vr.out Vs.out)
  go_wp2_with fail
  refine K.out.mono ?_
  rintro e w14 ⟨Mu, mu, rfl, hv, hb⟩
  clear K
  have hmv := hb
  have HG := Lib.hid (HG.out.below hmv)
  have HB := Lib.hid (HB.out.trans (hmv.mono HB.out.size))
  have Va := Lib.hid (Va.out.below hmv)
  have Oa := Lib.hid (show Own _ _ _ _ from blk_below Oa.out hmv)
  have Vb := Lib.hid (Vb.out.below hmv)
  have Ob := Lib.hid (show Own _ _ _ _ from blk_below Ob.out hmv)
  have Vg := Lib.hid (Vg.out.below hmv)
  have Og := Lib.hid (show Own _ _ _ _ from blk_below Og.out hmv)
  have Vp := Lib.hid (Vp.out.below hmv)
  have Vq := Lib.hid (Vq.out.below hmv)
  have Vr := Lib.hid (Vr.out.below hmv)
  have Vs := Lib.hid (Vs.out.below hmv)
  have R1 := Lib.hid (R1.out.below hmv)
  have R2 := Lib.hid (R2.out.below hmv)
  have R3 := Lib.hid (R3.out.below hmv)
  have R4 := Lib.hid (R4.out.below hmv)
  clear hmv
  clear hb
  have Vu := Lib.hid hv
  clear hv
  have K := Lib.hid (madeS A4 c4 bs4 t4 F4.out.1 _ R4.out F4.out.2.2.2.1 F4.out.2.2.2.2)
  go_wp2_with fail
  refine K.out.mono ?_
  rintro e w15 ⟨Mv, mv, rfl, hv, hb⟩
  clear K
  have hmv := hb
  have HG := Lib.hid (HG.out.below hmv)
  have HB := Lib.hid (HB.out.trans (hmv.mono HB.out.size))
  have Va := Lib.hid (Va.out.below hmv)
  have Oa := Lib.hid (show Own _ _ _ _ from blk_below Oa.out hmv)
  have Vb := Lib.hid (Vb.out.below hmv)
  have Ob := Lib.hid (show Own _ _ _ _ from blk_below Ob.out hmv)
  have Vg := Lib.hid (Vg.out.below hmv)
  have Og := Lib.hid (show Own _ _ _ _ from blk_below Og.out hmv)
  have Vp := Lib.hid (Vp.out.below hmv)
  have Vq := Lib.hid (Vq.out.below hmv)
  have Vr := Lib.hid (Vr.out.below hmv)
  have Vs := Lib.hid (Vs.out.below hmv)
  have Vu := Lib.hid (Vu.out.below hmv)
  have R1 := Lib.hid (R1.out.below hmv)
  have R2 := Lib.hid (R2.out.below hmv)
  have R3 := Lib.hid (R3.out.below hmv)
  have R4 := Lib.hid (R4.out.below hmv)
  clear hmv
  clear hb
  have Vv := Lib.hid hv
  clear hv
  have K := Lib.hid (appC (appT (appT t1 t2) t3) t4 _ _ _ _ _ Vu.out Vv.out)
  go_wp2_with fail
  refine K.out.mono ?_
  rintro e w16 ⟨Mx, mx, rfl, hv, hb⟩
  clear K
  have hmv := hb
  have HG := Lib.hid (HG.out.below hmv)
  have HB := Lib.hid (HB.out.trans (hmv.mono HB.out.size))
  have Va := Lib.hid (Va.out.below hmv)
  have Oa := Lib.hid (show Own _ _ _ _ from blk_below Oa.out hmv)
  have Vb := Lib.hid (Vb.out.below hmv)
  have Ob := Lib.hid (show Own _ _ _ _ from blk_below Ob.out hmv)
  have Vg := Lib.hid (Vg.out.below hmv)
  have Og := Lib.hid (show Own _ _ _ _ from blk_below Og.out hmv)
  have Vp := Lib.hid (Vp.out.below hmv)
  have Vq := Lib.hid (Vq.out.below hmv)
  have Vr := Lib.hid (Vr.out.below hmv)
  have Vs := Lib.hid (Vs.out.below hmv)
  have Vu := Lib.hid (Vu.out.below hmv)
  have Vv := Lib.hid (Vv.out.below hmv)
  have R1 := Lib.hid (R1.out.below hmv)
  have R2 := Lib.hid (R2.out.below hmv)
  have R3 := Lib.hid (R3.out.below hmv)
  have R4 := Lib.hid (R4.out.below hmv)
  clear hmv
  clear hb
  have hA := below_alloc (Below.refl w16.heap.size w16) (.cells (tmA (appT (appT (appT t1 t2) t3) t4) Mx mx) 26)
  have Vx := Lib.hid hv
  have On := Own.new w16 (tmA (appT (appT (appT t1 t2) t3) t4) Mx mx) 26
  clear hv
  have Ox := Lib.hid On
  have hmv := hA
  have HG := Lib.hid (HG.out.below hmv)
  have HB := Lib.hid (HB.out.trans (hmv.mono HB.out.size))
  have Va := Lib.hid (Va.out.below hmv)
  have Oa := Lib.hid (show Own _ _ _ _ from blk_below Oa.out hmv)
  have Vb := Lib.hid (Vb.out.below hmv)
  have Ob := Lib.hid (show Own _ _ _ _ from blk_below Ob.out hmv)
  have Vg := Lib.hid (Vg.out.below hmv)
  have Og := Lib.hid (show Own _ _ _ _ from blk_below Og.out hmv)
  have R1 := Lib.hid (R1.out.below hmv)
  have R2 := Lib.hid (R2.out.below hmv)
  have R3 := Lib.hid (R3.out.below hmv)
  have R4 := Lib.hid (R4.out.below hmv)
  clear hmv
  have Vx := Lib.hid (Vx.out.below hA)
  clear hA On
  have K := Lib.hid (madeS A1 c1 bs1 t1 F1.out.1 _ R1.out F1.out.2.2.2.1 F1.out.2.2.2.2)
  go_wp2_with fail
  refine K.out.mono ?_
  rintro e w17 ⟨Mp, mp, rfl, hv, hb⟩
  clear K
  have hmv := hb
  have HG := Lib.hid (HG.out.below hmv)
  have HB := Lib.hid (HB.out.trans (hmv.mono HB.out.size))
  have Va := Lib.hid (Va.out.below hmv)
  have Oa := Lib.hid (show Own _ _ _ _ from blk_below Oa.out hmv)
  have Vb := Lib.hid (Vb.out.below hmv)
  have Ob := Lib.hid (show Own _ _ _ _ from blk_below Ob.out hmv)
  have Vg := Lib.hid (Vg.out.below hmv)
  have Og := Lib.hid (show Own _ _ _ _ from blk_below Og.out hmv)
  have Vx := Lib.hid (Vx.out.below hmv)
  have Ox := Lib.hid (show Own _ _ _ _ from blk_below Ox.out hmv)
  have R1 := Lib.hid (R1.out.below hmv)
  have R2 := Lib.hid (R2.out.below hmv)
  have R3 := Lib.hid (R3.out.below hmv)
  have R4 := Lib.hid (R4.out.below hmv)
  clear hmv
  clear hb
  have Vp := Lib.hid hv
  clear hv
  have K := Lib.hid (madeS A2 c2 bs2 t2 F2.out.1 _ R2.out F2.out.2.2.2.1 F2.out.2.2.2.2)
  go_wp2_with fail
  refine K.out.mono ?_
  rintro e w18 ⟨Mq, mq, rfl, hv, hb⟩
  clear K
  have hmv := hb
  have HG := Lib.hid (HG.out.below hmv)
  have HB := Lib.hid (HB.out.trans (hmv.mono HB.out.size))
  have Va := Lib.hid (Va.out.below hmv)
  have Oa := Lib.hid (show Own _ _ _ _ from blk_below Oa.out hmv)
  have Vb := Lib.hid (Vb.out.below hmv)
  have Ob := Lib.hid (show Own _ _ _ _ from blk_below Ob.out hmv)
  have Vg := Lib.hid (Vg.out.below hmv)
  have Og := Lib.hid (show Own _ _ _ _ from blk_below Og.out hmv)
  have Vx := Lib.hid (Vx.out.below hmv)
  have Ox := Lib.hid (show Own _ _ _ _ from blk_below Ox.out hmv)
  have Vp := Lib.hid (Vp.out.below hmv)
  have R1 := Lib.hid (R1.out.below hmv)
  have R2 := Lib.hid (R2.out.below hmv)
  have R3 := Lib.hid (R3.out.below hmv)
  have R4 := Lib.hid (R4.out.below hmv)
  clear hmv
  clear hb
  have Vq := Lib.hid hv
  clear hv
  have K := Lib.hid (appC t1 t2 _ _ _ _ _ Vp.out Vq.out)
  go_wp2_with fail
  refine K.out.mono ?_
  rintro e w19 ⟨Mr, mr, rfl, hv, hb⟩
  clear K
  have hmv := hb
  have HG := Lib.hid (HG.out.below hmv)
  have HB := Lib.hid (HB.out.trans (hmv.mono HB.out.size))
  have Va := Lib.hid (Va.out.below hmv)
  have Oa := Lib.hid (show Own _ _ _ _ from blk_below Oa.out hmv)
  have Vb := Lib.hid (Vb.out.below hmv)
  have Ob := Lib.hid (show Own _ _ _ _ from blk_below Ob.out hmv)
  have Vg := Lib.hid (Vg.out.below hmv)
  have Og := Lib.hid (show Own _ _ _ _ from blk_below Og.out hmv)
  have Vx := Lib.hid (Vx.out.below hmv)
  have Ox := Lib.hid (show Own _ _ _ _ from blk_below Ox.out hmv)
  have Vp := Lib.hid (Vp.out.below hmv)
  have Vq := Lib.hid (Vq.out.below hmv)
  have R1 := Lib.hid (R1.out.below hmv)
  have R2 := Lib.hid (R2.out.below hmv)
  have R3 := Lib.hid (R3.out.below hmv)
  have R4 := Lib.hid (R4.out.below hmv)
  clear hmv
  clear hb
  have Vr := Lib.hid hv
  clear hv
  have K := Lib.hid (madeS A3 c3 bs3 t3 F3.out.1 _ R3.out F3.out.2.2.2.1 F3.out.2.2.2.2)
  go_wp2_with fail
  refine K.out.mono ?_
  rintro e w20 ⟨Ms, ms, rfl, hv, hb⟩
  clear K
  have hmv := hb
  have HG := Lib.hid (HG.out.below hmv)
  have HB := Lib.hid (HB.out.trans (hmv.mono HB.out.size))
  have Va := Lib.hid (Va.out.below hmv)
  have Oa := Lib.hid (show Own _ _ _ _ from blk_below Oa.out hmv)
  have Vb := Lib.hid (Vb.out.below hmv)
  have Ob := Lib.hid (show Own _ _ _ _ from blk_below Ob.out hmv)
  have Vg := Lib.hid (Vg.out.below hmv)
  have Og := Lib.hid (show Own _ _ _ _ from blk_below Og.out hmv)
  have Vx := Lib.hid (Vx.out.below hmv)
  have Ox := Lib.hid (show Own _ _ _ _ from blk_below Ox.out hmv)
  have Vp := Lib.hid (Vp.out.below hmv)
  have Vq := Lib.hid (Vq.out.below hmv)
  have Vr := Lib.hid (Vr.out.below hmv)
  have R1 := Lib.hid (R1.out.below hmv)
  have R2 := Lib.hid (R2.out.below hmv)
  have R3 := Lib.hid (R3.out.below hmv)
  have R4 := Lib.hid (R4.out.below hmv)
  clear hmv
  clear hb
  have Vs := Lib.hid hv
  clear hv
  have K := Lib.hid (madeS A4 c4 bs4 t4 F4.out.1 _ R4.out F4.out.2.2.2.1 F4.out.2.2.2.2)
  go_wp2_with fail
  refine K.out.mono ?_
  rintro e w21 ⟨Mv, mv, rfl, hv, hb⟩
  clear K
  have hmv := hb
  have HG := Lib.hid (HG.out.below hmv)
  have HB := Lib.hid (HB.out.trans (hmv.mono HB.out.size))
  have Va := Lib.hid (Va.out.below hmv)
  have Oa := Lib.hid (show Own _ _ _ _ from blk_below Oa.out hmv)
  have Vb := Lib.hid (Vb.out.below hmv)
  have Ob := Lib.hid (show Own _ _ _ _ from blk_below Ob.out hmv)
  have Vg := Lib.hid (Vg.out.below hmv)
  have Og := Lib.hid (show Own _ _ _ _ from blk_below Og.out hmv)
  have Vx := Lib.hid (Vx.out.below hmv)
  have Ox := Lib.hid (show Own _ _ _ _ from blk_below Ox.out hmv)
  have Vp := Lib.hid (Vp.out.below hmv)
  have Vq := Lib.hid (Vq.out.below hmv)
  have Vr := Lib.hid (Vr.out.below hmv)
  have Vs := Lib.hid (Vs.out.below hmv)
  have R1 := Lib.hid (R1.out.below hmv)
  have R2 := Lib.hid (R2.out.below hmv)
  have R3 := Lib.hid (R3.out.below hmv)
  have R4 := Lib.hid (R4.out.below hmv)
  clear hmv
  clear hb
  have Vv := Lib.hid hv
  clear hv
  have K := Lib.hid (appC t3 t4 _ _ _ _ _ Vs.out Vv.out)
  go_wp2_with fail
  refine K.out.mono ?_
  rintro e w22 ⟨Mu, mu, rfl, hv, hb⟩
  clear K
  have hmv := hb
  have HG := Lib.hid (HG.out.below hmv)
  have HB := Lib.hid (HB.out.trans (hmv.mono HB.out.size))
  have Va := Lib.hid (Va.out.below hmv)
  have Oa := Lib.hid (show Own _ _ _ _ from blk_below Oa.out hmv)
  have Vb := Lib.hid (Vb.out.below hmv)
  have Ob := Lib.hid (show Own _ _ _ _ from blk_below Ob.out hmv)
  have Vg := Lib.hid (Vg.out.below hmv)
  have Og := Lib.hid (show Own _ _ _ _ from blk_below Og.out hmv)
  have Vx := Lib.hid (Vx.out.below hmv)
  have Ox := Lib.hid (show Own _ _ _ _ from blk_below Ox.out hmv)
  have Vp := Lib.hid (Vp.out.below hmv)
  have Vq := Lib.hid (Vq.out.below hmv)
  have Vr := Lib.hid (Vr.out.below hmv)
  have Vs := Lib.hid (Vs.out.below hmv)
  have Vv := Lib.hid (Vv.out.below hmv)
  have R1 := Lib.hid (R1.out.below hmv)
  have R2 := Lib.hid (R2.out.below hmv)
  have R3 := Lib.hid (R3.out.below hmv)
  have R4 := Lib.hid (R4.out.below hmv)
  clear hmv
  clear hb
  have Vu := Lib.hid hv
  clear hv
  have Bk := (Own.new w22 #[.int .i64 (appT t1 t2).f0, .string (appT t1 t2).f1, .int .i64 (appT t1 t2).f2, .slice Mr (appT t1 t2).f3.length mr, .int .i64 (appT t3 t4).f0, .string (appT t3 t4).f1, .int .i64 (appT t3 t4).f2, .slice Mu (appT t3 t4).f3.length mu] 26).alloc (.cells #[.int .i64 12, .string ⟨#[60]⟩, .int .i64 0, .slice (some ⟨w22.heap.size, 0, none⟩) 2 2] 26)
  have Oy := Lib.hid (Own.new2 w22 (.cells #[.int .i64 (appT t1 t2).f0, .string (appT t1 t2).f1, .int .i64 (appT t1 t2).f2, .slice Mr (appT t1 t2).f3.length mr, .int .i64 (appT t3 t4).f0, .string (appT t3 t4).f1, .int .i64 (appT t3 t4).f2, .slice Mu (appT t3 t4).f3.length mu] 26) #[.int .i64 12, .string ⟨#[60]⟩, .int .i64 0, .slice (some ⟨w22.heap.size, 0, none⟩) 2 2] 26)
  have hA := fun o o' => below_alloc (below_alloc (Below.refl w22.heap.size w22) o) o'
  have Vy := Lib.hid (TmR.kids2 12 mLess (Vr.out.below (hA _ _)) (Vu.out.below (hA _ _)) Bk)
  clear Bk
  have hmv := (hA _ _ : Below w22.heap.size w22 ((w22.alloc (.cells #[.int .i64 (appT t1 t2).f0, .string (appT t1 t2).f1, .int .i64 (appT t1 t2).f2, .slice Mr (appT t1 t2).f3.length mr, .int .i64 (appT t3 t4).f0, .string (appT t3 t4).f1, .int .i64 (appT t3 t4).f2, .slice Mu (appT t3 t4).f3.length mu] 26)).alloc (.cells #[.int .i64 12, .string ⟨#[60]⟩, .int .i64 0, .slice (some ⟨w22.heap.size, 0, none⟩) 2 2] 26)))
  have HG := Lib.hid (HG.out.below hmv)
  have HB := Lib.hid (HB.out.trans (hmv.mono HB.out.size))
  have Va := Lib.hid (Va.out.below hmv)
  have Oa := Lib.hid (show Own _ _ _ _ from blk_below Oa.out hmv)
  have Vb := Lib.hid (Vb.out.below hmv)
  have Ob := Lib.hid (show Own _ _ _ _ from blk_below Ob.out hmv)
  have Vg := Lib.hid (Vg.out.below hmv)
  have Og := Lib.hid (show Own _ _ _ _ from blk_below Og.out hmv)
  have Vx := Lib.hid (Vx.out.below hmv)
  have Ox := Lib.hid (show Own _ _ _ _ from blk_below Ox.out hmv)
  have R1 := Lib.hid (R1.out.below hmv)
  have R2 := Lib.hid (R2.out.below hmv)
  have R3 := Lib.hid (R3.out.below hmv)
  have R4 := Lib.hid (R4.out.below hmv)
  clear hmv
  clear hA
  have K := Lib.hid (sameS (appT (appT (appT t1 t2) t3) t4) _ _ _ Va.out Vx.out)
  have ca0 := Oa.out.cell 0
  have ca1 := Oa.out.cell 1
  have ca2 := Oa.out.cell 2
  have ca3 := Oa.out.cell 3
  have cx0 := Ox.out.cell 0
  have cx1 := Ox.out.cell 1
  have cx2 := Ox.out.cell 2
  have cx3 := Ox.out.cell 3
  go_wp2_with fail
  clear ca0 ca1 ca2 ca3
  clear cx0 cx1 cx2 cx3
  refine K.out.mono ?_
  rintro e w23 ⟨rfl, hb⟩
  clear K
  have hmv := hb
  have HG := Lib.hid (HG.out.below hmv)
  have HB := Lib.hid (HB.out.trans (hmv.mono HB.out.size))
  have Va := Lib.hid (Va.out.below hmv)
  have Oa := Lib.hid (show Own _ _ _ _ from blk_below Oa.out hmv)
  have Vb := Lib.hid (Vb.out.below hmv)
  have Ob := Lib.hid (show Own _ _ _ _ from blk_below Ob.out hmv)
  have Vg := Lib.hid (Vg.out.below hmv)
  have Og := Lib.hid (show Own _ _ _ _ from blk_below Og.out hmv)
  have Vx := Lib.hid (Vx.out.below hmv)
  have Ox := Lib.hid (show Own _ _ _ _ from blk_below Ox.out hmv)
  have Vy := Lib.hid (Vy.out.below hmv)
  have Oy := Lib.hid (show Own _ _ _ _ from blk_below Oy.out hmv)
  have R1 := Lib.hid (R1.out.below hmv)
  have R2 := Lib.hid (R2.out.below hmv)
  have R3 := Lib.hid (R3.out.below hmv)
  have R4 := Lib.hid (R4.out.below hmv)
  clear hmv
  clear hb
  have K := Lib.hid (sameS (tm 12 mLess [appT t1 t2, appT t3 t4]) _ _ _ Vb.out Vy.out)
  have cb0 := Ob.out.cell 0
  have cb1 := Ob.out.cell 1
  have cb2 := Ob.out.cell 2
  have cb3 := Ob.out.cell 3
  have cy0 := Oy.out.cell 0
  have cy1 := Oy.out.cell 1
  have cy2 := Oy.out.cell 2
  have cy3 := Oy.out.cell 3
  go_wp2_with fail
  clear cb0 cb1 cb2 cb3
  clear cy0 cy1 cy2 cy3
  refine K.out.mono ?_
  rintro e w24 ⟨rfl, hb⟩
  clear K
  have hmv := hb
  have HG := Lib.hid (HG.out.below hmv)
  have HB := Lib.hid (HB.out.trans (hmv.mono HB.out.size))
  have Va := Lib.hid (Va.out.below hmv)
  have Oa := Lib.hid (show Own _ _ _ _ from blk_below Oa.out hmv)
  have Vb := Lib.hid (Vb.out.below hmv)
  have Ob := Lib.hid (show Own _ _ _ _ from blk_below Ob.out hmv)
  have Vg := Lib.hid (Vg.out.below hmv)
  have Og := Lib.hid (show Own _ _ _ _ from blk_below Og.out hmv)
  have Vx := Lib.hid (Vx.out.below hmv)
  have Ox := Lib.hid (show Own _ _ _ _ from blk_below Ox.out hmv)
  have Vy := Lib.hid (Vy.out.below hmv)
  have Oy := Lib.hid (show Own _ _ _ _ from blk_below Oy.out hmv)
  have R1 := Lib.hid (R1.out.below hmv)
  have R2 := Lib.hid (R2.out.below hmv)
  have R3 := Lib.hid (R3.out.below hmv)
  have R4 := Lib.hid (R4.out.below hmv)
  clear hmv
  clear hb
  go_wp2_with fail
  go_ret
  exact ⟨rfl, HB.out⟩
end Go.Proofs.YtchekgnacodolaaGreatDoor.X

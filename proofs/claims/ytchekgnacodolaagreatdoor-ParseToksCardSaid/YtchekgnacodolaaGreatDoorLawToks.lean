/- ParseToks: a text is parsed as its tokens are; tokens that are not right are none. -/
import Derived.Test.YtchekgnacodolaaGreatDoorM5D
namespace Go.Proofs.YtchekgnacodolaaGreatDoor.X
open Go.RowKit Go.Proofs.YtchekgnacodolaaGreatDoorW.PrintWords Go.Proofs.YtchekgnacodolaaGreatDoorW.PrintLast Go.Proofs.YtchekgnacodolaaGreatDoorW.PrintMore
set_option linter.unusedSimpArgs false
set_option linter.unusedVariables false

theorem ext_take (s : List UInt8) (n : Nat) : (B s).extract 0 (min ((B s).size : Int) (n : Int)).toNat = B (s.take n) := by
  have h : (min ((B s).size : Int) (n : Int)).toNat = min s.length n := by rw [B_size]; omega
  rw [h]
  unfold B
  apply ByteArray.ext
  simp [List.take_eq_take_min, Nat.min_comm]
theorem toks_wrong {l : List TokT} (h : l.all rightT = false) : (toksR l).2 = 2 := by unfold toksR; rw [if_pos h]
theorem Told.open {w : World} {r : Tm × Int} {e : Ending} {w' : World} (h : Told w r e w') : ∃ A c, e = .returned (.tuple #[.agg #[.int .i64 r.1.f0, .string r.1.f1, .int .i64 r.1.f2, .slice A r.1.f3.length c], .int .i64 r.2]) ∧ TmR w' r.1 (.agg #[.int .i64 r.1.f0, .string r.1.f1, .int .i64 r.1.f2, .slice A r.1.f3.length c]) ∧ Below w.heap.size w w' := by
  obtain ⟨v, rfl, hv, hb⟩ := h
  have hv := hv.R
  obtain ⟨A, c, rfl, hl, hC⟩ := hv
  exact ⟨A, c, rfl, ⟨A, c, rfl, hl, hC⟩, hb⟩
/-- What is laid behind a call, in a new block. -/
abbrev tmO (t : Tm) (A : Option Addr) (c : Nat) : Obj := .cells #[.int .i64 t.f0, .string t.f1, .int .i64 t.f2, .slice A t.f3.length c] 26
theorem told_lay {w w' : World} (hb : Below w.heap.size w w') (o : Obj) : Below w.heap.size w (w'.alloc o) := hb.trans ((below_alloc (Below.refl w'.heap.size w') o).mono hb.size)
set_option maxRecDepth 100000 in
set_option maxHeartbeats 8000000 in
theorem lawToks (w : World) (hG : GL w) (s : List UInt8) (hl : s.length ≤ 9223372036854775807) (A : Option Addr) (c : Nat) (l : List TokT) (hr : Reads w A c l) (hs : ∀ t ∈ l, t.f1.size ≤ 281474976710656) :
    Calls Tryz.prog 5 #[.string (B s), .slice A l.length c] w fun e w' => e = .returned (.bool true) ∧ Below w.heap.size w w' := by
  have K := Lib.hid (exam5C w hG)
  have HG := Lib.hid hG
  have HR := Lib.hid hr
  have hu := ext_take s 3000
  have hul : (s.take 3000).length ≤ 9223372036854775807 := by rw [List.length_take]; omega
  obtain ⟨u, hu'⟩ : ∃ u, s.take 3000 = u := ⟨_, rfl⟩
  rw [hu'] at hu hul
  simp only [Int.cast_ofNat_Int] at hu
  have KL := Lib.hid (fun w hG => lexC u hul w hG)
  have KP := Lib.hid (fun w hG => parseC u hul w hG)
  have F1 : (lexR u).2 ≠ 0 → (parseR u).2 = (lexR u).2 := fun h => by unfold parseR; rw [if_pos h]
  have F2 : (lexR u).2 = 0 → parseR u = toksR (lexR u).1 := fun h => by unfold parseR; rw [if_neg (by rw [h]; decide)]
  have hsh := lexR_short u
  obtain ⟨x, hx⟩ : ∃ x, (B s).extract 0 (min ((B s).size : Int) 3000).toNat = x := ⟨_, rfl⟩
  rw [hx] at hu
  rw [← hu] at KL KP
  obtain ⟨m, hm⟩ : ∃ m : Nat, m = min l.length 1000 := ⟨_, rfl⟩
  have HM := Lib.hid hm
  have hmi : min (l.length : Int) 1000 = (m : Int) := by omega
  have hmc : decide ((m : Int) ≤ (c : Int)) = true := by rw [decide_eq_true_eq]; have := hr.2; omega
  have hmc2 : (m ≤ c) = True := eq_true (by have := hr.2; omega)
  have hmc3 : (c < m) = False := eq_false (by have := hr.2; omega)
  clear hu' hu hul hG hr hm
  go_enter Tryz.func5, Tryz.ntmps5
  go_wp2_with fail
  refine K.out.mono ?_
  rintro e w1 ⟨rfl, hb⟩
  have HG := Lib.hid (HG.out.below hb)
  have HB := Lib.hid hb
  have HR := Lib.hid (HR.out.below hb)
  have KL := Lib.hid (KL.out _ HG.out)
  clear hb
  go_wp2_with fail
  refine KL.out.mono ?_
  rintro e w2 ⟨A1, c1, rfl, hr1, -, hb⟩
  have HG := Lib.hid (HG.out.below hb)
  have HB := Lib.hid (HB.out.trans (hb.mono HB.out.size))
  have HR := Lib.hid (HR.out.below hb)
  have HR1 := Lib.hid hr1
  have KP := Lib.hid (KP.out _ HG.out)
  clear hb hr1
  go_wp2_with fail
  refine KP.out.mono ?_
  rintro e w3 hT
  obtain ⟨A2, c2, rfl, hv, hb⟩ := hT.open
  have hb := told_lay hb (tmO (parseR u).1 A2 c2)
  have V8 := Lib.hid (hv.below (below_alloc (Below.refl _ _) (tmO (parseR u).1 A2 c2)))
  have O8 := Lib.hid (Own.new w3 #[.int .i64 (parseR u).1.f0, .string (parseR u).1.f1, .int .i64 (parseR u).1.f2, .slice A2 (parseR u).1.f3.length c2] 26)
  have HG := Lib.hid (HG.out.below hb)
  have HB := Lib.hid (HB.out.trans (hb.mono HB.out.size))
  have HR := Lib.hid (HR.out.below hb)
  have KT := Lib.hid (toksC (lexR u).1 A1 c1 (by omega) (fun t ht => by have := hsh.2 t ht; omega) _ HG.out (HR1.out.below hb))
  clear hb hv hT
  go_wp2_with fail
  refine KT.out.mono ?_
  rintro e w4 hT
  obtain ⟨A3, c3, rfl, hv, hb⟩ := hT.open
  have hb := told_lay hb (tmO (toksR (lexR u).1).1 A3 c3)
  have V10 := Lib.hid (hv.below (below_alloc (Below.refl _ _) (tmO (toksR (lexR u).1).1 A3 c3)))
  have O10 := Lib.hid (Own.new w4 #[.int .i64 (toksR (lexR u).1).1.f0, .string (toksR (lexR u).1).1.f1, .int .i64 (toksR (lexR u).1).1.f2, .slice A3 (toksR (lexR u).1).1.f3.length c3] 26)
  have V8 := Lib.hid (V8.out.below hb)
  have O8 := Lib.hid (O8.out.keep hb)
  have HG := Lib.hid (HG.out.below hb)
  have HB := Lib.hid (HB.out.trans (hb.mono HB.out.size))
  have HR := Lib.hid (HR.out.below hb)
  have hLl : (l.take m).length = m := by rw [List.length_take, HM.out]; omega
  have hRt : Reads (w4.alloc (tmO (toksR (lexR u).1).1 A3 c3)) A c (l.take m) := ⟨Kd.C_take HR.out.1 (by rw [HM.out]; omega), by have := HR.out.2; rw [hLl, HM.out]; omega⟩
  have HST := Lib.hid (fun t (ht : t ∈ l.take m) => hs t (List.mem_of_mem_take ht))
  have KT := toksC (l.take m) A c (by rw [hLl, HM.out]; omega) HST.out _ HG.out hRt
  have KRR := Lib.hid (fun w hG hr => rightC (l.take m) A c HST.out w hG hr)
  have HRt := Lib.hid hRt
  have F3 : (l.take m).all rightT = false → (toksR (l.take m)).2 = 2 := toks_wrong
  rw [hLl] at KT KRR
  have KT := Lib.hid KT
  clear hb hv hT hRt hLl
  generalize l.take m = L at *
  go_wp2_with fail
  refine KT.out.mono ?_
  rintro e w5 hT
  obtain ⟨A4, c4, rfl, hv, hb⟩ := hT.open
  have hb := told_lay hb (tmO (toksR L).1 A4 c4)
  have V8 := Lib.hid (V8.out.below hb)
  have O8 := Lib.hid (O8.out.keep hb)
  have V10 := Lib.hid (V10.out.below hb)
  have O10 := Lib.hid (O10.out.keep hb)
  have HG := Lib.hid (HG.out.below hb)
  have HB := Lib.hid (HB.out.trans (hb.mono HB.out.size))
  have HRt := Lib.hid (HRt.out.below hb)
  clear hb hv hT
  by_cases hE : (lexR u).2 = 0
  · have hE1 : ((lexR u).2 != 0) = false := by rw [hE]; rfl
    have F2 := F2 hE
    clear hE F1
    have x0 := O8.out.cell 0
    have x1 := O8.out.cell 1
    have x2 := O8.out.cell 2
    have x3 := O8.out.cell 3
    have y0 := O10.out.cell 0
    have y1 := O10.out.cell 1
    have y2 := O10.out.cell 2
    have y3 := O10.out.cell 3
    have KS := sameC (parseR u).1 (toksR (lexR u).1).1 _ _ _ V8.out V10.out
    rw [show sameTm (parseR u).1 (toksR (lexR u).1).1 = true by rw [F2]; exact sameTm_self _] at KS
    have hfg : ((parseR u).2 == (toksR (lexR u).1).2) = true := by rw [F2]; simp
    have KS := Lib.hid KS
    clear F2
    go_wp2_with fail
    refine KS.out.mono ?_
    rintro e w6 ⟨rfl, hb⟩
    have KRR := Lib.hid (KRR.out _ (HG.out.below hb) (HRt.out.below hb))
    have HB := Lib.hid (HB.out.trans (hb.mono HB.out.size))
    clear hb x0 x1 x2 x3 y0 y1 y2 y3
    generalize L.all rightT = r at *
    cases r with
    | true =>
      go_wp2_with fail
      refine KRR.out.mono ?_
      rintro e w7 ⟨rfl, hb⟩
      have HB := Lib.hid (HB.out.trans (hb.mono HB.out.size))
      clear hb
      go_wp2_with fail
      go_ret
      exact ⟨rfl, HB.out⟩
    | false =>
      have F3 := F3 rfl
      go_wp2_with fail
      refine KRR.out.mono ?_
      rintro e w7 ⟨rfl, hb⟩
      have HB := Lib.hid (HB.out.trans (hb.mono HB.out.size))
      clear hb
      go_wp2_with fail
      go_ret
      exact ⟨rfl, HB.out⟩
  · have hE1 : ((lexR u).2 != 0) = true := by simpa using hE
    have F1 := F1 hE
    clear hE F2
    have F4 : ((parseR u).2 == (lexR u).2) = true := by rw [F1]; simp
    clear F1
    go_wp2_with fail
    go_ret
    exact ⟨rfl, HB.out⟩
end Go.Proofs.YtchekgnacodolaaGreatDoor.X

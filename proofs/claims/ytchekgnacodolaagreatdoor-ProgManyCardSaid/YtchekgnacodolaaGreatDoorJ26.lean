-- Joined by our own program (wip/tools/prune.py) out of the seat's texts, less what this claim doesn't name.
import Derived.Test.YtchekgnacodolaaGreatDoorJ16
import Derived.Test.YtchekgnacodolaaGreatDoorJ19
import Derived.Test.YtchekgnacodolaaGreatDoorJ25
section
namespace Go.Proofs.YtchekgnacodolaaGreatDoor.X
open Go.RowKit Go.Proofs.YtchekgnacodolaaGreatDoorW.PrintWords Go.Proofs.YtchekgnacodolaaGreatDoorW.PrintLast Go.Proofs.YtchekgnacodolaaGreatDoorW.PrintMore
set_option linter.unusedSimpArgs false
set_option linter.unusedVariables false
theorem four3_own {w : World} {R : Nat} {T : TypeId} {x0 x1 x2 x3 x4 x5 x6 d e f g : Value} (h : Own w R #[x0, x1, x2, x3, x4, x5, x6] T) : Own ((((w.setCell ⟨R, 3, none⟩ d).setCell ⟨R, 4, none⟩ e).setCell ⟨R, 5, none⟩ f).setCell ⟨R, 6, none⟩ g) R #[x0, x1, x2, d, e, f, g] T := by
  have h4 := blk_set h 3 d
  have h5 := blk_set h4 4 e
  have h6 := blk_set h5 5 f
  have h7 := blk_set h6 6 g
  simpa [Own] using h7
theorem four3_far {w : World} {N R : Nat} {cs : Array Value} {T : TypeId} {d e f g : Value} (h : Own w N cs T) (hne : N ≠ R) : Own ((((w.setCell ⟨R, 3, none⟩ d).setCell ⟨R, 4, none⟩ e).setCell ⟨R, 5, none⟩ f).setCell ⟨R, 6, none⟩ g) N cs T :=
  blk_far (p := ⟨R, 6, none⟩) (blk_far (p := ⟨R, 5, none⟩) (blk_far (p := ⟨R, 4, none⟩) (blk_far (p := ⟨R, 3, none⟩) h hne _) hne _) hne _) hne _
theorem four3_N {α : Type} {k : Kd α} {n R : Nat} {base : Nat} {w : World} {ok : Nat → Prop} {v : Value} {xs : List α} {d e f g : Value} (h : Kd.N k n w base ok v xs) (hok : ∀ q, ok q → q ≠ R) : Kd.N k n ((((w.setCell ⟨R, 3, none⟩ d).setCell ⟨R, 4, none⟩ e).setCell ⟨R, 5, none⟩ f).setCell ⟨R, 6, none⟩ g) base ok v xs :=
  Kd.N_far (Kd.N_far (Kd.N_far (Kd.N_far h (p := ⟨R, 3, none⟩) hok d) (p := ⟨R, 4, none⟩) hok e) (p := ⟨R, 5, none⟩) hok f) (p := ⟨R, 6, none⟩) hok g
theorem four3_below {w w0 : World} {B R : Nat} {d e f g : Value} (h : Below B w0 w) (hB : B ≤ R) : Below B w0 ((((w.setCell ⟨R, 3, none⟩ d).setCell ⟨R, 4, none⟩ e).setCell ⟨R, 5, none⟩ f).setCell ⟨R, 6, none⟩ g) := (((h.setCell hB _).setCell hB _).setCell hB _).setCell hB _
theorem read_f3 (p : Prg) (l : List TokT) : (readP p l).1.f3 = p.f3 := by
  unfold readP doP inputP cellP defP
  (repeat' split) <;> rfl
theorem reads_step (p : Prg) (ls : List (List TokT)) (i : Nat) (h : i < ls.length) : readsP p (ls.drop i) = if (readP p ls[i]).2 ≠ 0 then readP p ls[i] else readsP (readP p ls[i]).1 (ls.drop (i + 1)) := by
  rw [List.drop_eq_getElem_cons h, readsP]
set_option maxRecDepth 100000 in
set_option maxHeartbeats 8000000 in
theorem prgParseC (s : List UInt8) (hl : s.length ≤ 9223372036854775807) (w : World) (hG : GL w) :
    Calls Tryz.prog 37 #[.string (B s)] w fun e w' => ToldP w (progR s) e w' := by
  have hW := below_alloc (Below.refl w.heap.size w) (.cells zeroP 64)
  have K1 := Lib.hid (lexC s hl _ (hG.below hW))
  have O2 := Own.new w zeroP 64
  have HW := Lib.hid hW
  have HG := Lib.hid hG
  clear hW hG
  by_cases h1 : (lexR s).2 = 0
  · have hb1 : ((lexR s).2 != 0) = false := by rw [h1]; rfl
    have hsh := lexR_short s
    have hP : progR s = if 97 < (piecesL (lexR s).1).length then (zPrg, 1)
        else if (readsP zPrg (piecesL (lexR s).1).dropLast).2 ≠ 0 then (zPrg, (readsP zPrg (piecesL (lexR s).1).dropLast).2)
        else if (toksR ((piecesL (lexR s).1).getLastD [])).2 ≠ 0 then (zPrg, (toksR ((piecesL (lexR s).1).getLastD [])).2)
        else ({ (readsP zPrg (piecesL (lexR s).1).dropLast).1 with f3 := (toksR ((piecesL (lexR s).1).getLastD [])).1 }, 0) := by
      unfold progR; rw [if_neg (by rw [h1]; decide)]
    have hmem := piece_mem (lexR s).1
    have hne := pieces_ne (lexR s).1
    have hlen := pieces_len (lexR s).1
    have KP := fun A c W hr => piecesC (lexR s).1 (by omega) A c W hr
    generalize (lexR s).2 = r1 at *
    generalize (lexR s).1 = L at *
    generalize progR s = R0 at *
    have hsz : ∀ q ∈ piecesL L, q.length ≤ 1099511627776 ∧ ∀ t ∈ q, t.f1.size ≤ 281474976710656 := fun q hq => ⟨by have := (hmem q hq).1; omega, fun t ht => by have := hsh.2 t ((hmem q hq).2 t ht); omega⟩
    generalize piecesL L = ls at *
    obtain ⟨m, hm⟩ : ∃ m, ls.length = m + 1 := by
      cases ls with
      | nil => exact absurd rfl hne
      | cons a r => exact ⟨r.length, rfl⟩
    have hdl : ls.dropLast = ls.take m := by rw [List.dropLast_eq_take, hm]; rfl
    obtain ⟨last, hlast⟩ : ∃ q, ls[m]? = some q := ⟨_, List.getElem?_eq_getElem (show m < ls.length by omega)⟩
    have hgl : ls.getLastD [] = last := by
      rw [List.getLastD_eq_getLast?, List.getLast?_eq_getElem?, show ls.length - 1 = m by omega, hlast]; rfl
    have HLA := Lib.hid hlast
    rw [hdl, hgl, hm] at hP
    have HP := Lib.hid hP
    have HSZ := Lib.hid hsz
    have KP := Lib.hid KP
    have HM := Lib.hid hm
    have hml : m ≤ 65536 := by have := hsh.1; omega
    have HLS := Lib.hid hlen
    rw [hm] at KP
    clear hP hmem hne hlen hsh hsz hdl hgl hm HLS h1 hlast
    go_enter Tryz.func37, Tryz.ntmps37
    go_wp2_with fail
    refine K1.out.mono ?_
    rintro e w1 ⟨A, c, rfl, hr, -, hb⟩
    have O2 := O2.keep hb
    have HB := Lib.hid (HW.out.trans (hb.mono (by simp)))
    have K2 := Lib.hid (KP.out A c w1 hr)
    clear hb hr
    go_wp2_with fail
    refine K2.out.mono ?_
    rintro e w2 ⟨A2, c2, rfl, hc2, hC, hb⟩
    have O2 := O2.keep hb
    have HB := Lib.hid (HB.out.trans (hb.mono HB.out.size))
    have HC := Lib.hid hC
    have hRg : w.heap.size < w2.heap.size := O2.lt
    have hcast : ((m + 1 : Nat) : Int) = (m : Int) + 1 := rfl
    clear hb hC
    by_cases h97 : 97 < m + 1
    · have h97d : decide (97 < (m : Int) + 1) = true := by rw [decide_eq_true_eq]; omega
      have h97e : decide (97 < m + 1) = true := by rw [decide_eq_true_eq]; omega
      have HT := Lib.hid (show R0 = (zPrg, 1) by rw [HP.out, if_pos h97])
      have d0 := O2.cell 0
      have d1 := O2.cell 1
      have d2 := O2.cell 2
      have d3 := O2.cell 3
      have d4 := O2.cell 4
      have d5 := O2.cell 5
      have d6 := O2.cell 6
      have dz := fun i => O2.fz i
      clear h97
      go_wp2_with fail
      refine ret_prg rfl rfl rfl (seven_own O2) ?_
      rw [HT.out]
      exact toldP_zero _ (seven_below HB.out (Nat.le_refl _))
    · have h97d : decide (97 < (m : Int) + 1) = false := by rw [decide_eq_false_iff_not]; omega
      have h97e : decide (97 < m + 1) = false := by rw [decide_eq_false_iff_not]; omega
      have HP := Lib.hid (HP.out.trans (if_neg h97))
      have hA3 := below_alloc (Below.refl w2.heap.size w2) (.cells zeroP 64)
      have hps : PS w2.heap.size zPrg (.slice none 0 0) (.slice none 0 0) (.slice none 0 0) (w2.alloc (.cells zeroP 64)) := ⟨blk_new _ _, Kd.N_nil _ _ _ _ _, Kd.N_nil _ _ _ _ _, Kd.N_nil _ _ _ _ _⟩
      have HPS := Lib.hid hps
      have HA3 := Lib.hid hA3
      have hsub : IntKind.i64.wrap ((m : Int) + 1 - 1) = (m : Int) := by rw [Int.add_sub_cancel]; exact IntWalk.i64_in _ (by constructor <;> omega)
      have hmc : decide ((m : Int) ≤ (c2 : Int)) = true := by rw [decide_eq_true_eq]; omega
      have hmc2 : (m ≤ c2) = True := eq_true (by omega)
      have hmc3 : (c2 < m) = False := eq_false (by omega)
      have O2b := Lib.hid O2
      clear O2
      clear hps hA3
      go_wp2_with fail
      go_loopg [34] m (fun gk v34 wr => ∃ (i : Nat) (p : Prg) (v0 v1 v2 : Value), v34 = .int .i64 i ∧ i ≤ m ∧ gk = m - i ∧ Aside0 (readsP zPrg (ls.take m) = readsP p ((ls.take m).drop i)) ∧ Aside0 (PS w2.heap.size p v0 v1 v2 wr) ∧ Aside0 (p.f0.length ≤ 32 ∧ p.f1.length ≤ 32 ∧ p.f2.length ≤ 32) ∧ Aside0 (p.f3 = zTm) ∧ Aside0 (Below w2.heap.size w2 wr))
      case atStart => exact ⟨0, zPrg, _, _, _, rfl, by omega, by omega, ⟨rfl⟩, ⟨HPS.out⟩, ⟨by decide⟩, ⟨rfl⟩, ⟨HA3.out⟩⟩
      case round =>
        obtain ⟨i, p, v0, v1, v2, rfl, hi, hgk, HS, HPP, HL, HZ, HR⟩ := hrel
        have hbr := HR.out
        have hbw := HB.out.trans (hbr.mono HB.out.size)
        have hgw := HPP.out.lt
        have hC' := HC.out
        rw [← HM.out] at hC'
        by_cases hlt : i < m
        · have hdd : decide ((i : Int) < (m : Int)) = true := by rw [decide_eq_true_eq]; omega
          have p1 : (0 ≤ (i : Int)) = True := eq_true (by omega)
          have p2 : ((i : Int) < (m : Int)) = True := eq_true (by omega)
          have hil : i < ls.length := by have := HM.out; omega
          obtain ⟨ad, A0, c0, rfl, h0, hPc⟩ := piece_at hC' i hil
          have k0 : wr.cell? (ad.add i) = _ := (hbr.cell (p := ad.add i) (cell_lt h0)).trans h0
          have hq := HSZ.out ls[i] (List.getElem_mem hil)
          have hst := reads_step p (ls.take m) i (by rw [List.length_take]; omega)
          rw [List.getElem_take, ← HS.out] at hst
          have HST := Lib.hid hst
          clear hst h0 hC'
          generalize ls[i] = q at *
          have hll := HL.out
          have KR := Lib.hid (prgReadC w2.heap.size p v0 v1 v2 A0 c0 q wr hq.1 hq.2 (HG.out.below hbw) (hPc.to rfl hbr) HPP.out (by omega) (by omega) (by omega))
          clear hPc hq hll
          go_wp2_with fail
          refine KR.out.mono ?_
          rintro e w5 ⟨rfl, hb, u0, u1, u2, hps⟩
          have hbr5 : Below w2.heap.size w2 w5 := hbr.trans hb
          by_cases hx : (readP p q).2 = 0
          · have hx1 : ((readP p q).2 != 0) = false := by rw [hx]; rfl
            have HS2 := Aside0.mk (HST.out.trans (if_neg (fun h => h hx)))
            have HL2 := Aside0.mk (read_len HL.out hx)
            have HP2 := Aside0.mk hps
            have HZ2 := Aside0.mk ((read_f3 p q).trans HZ.out)
            have HB2 := Aside0.mk hbr5
            clear hx hps hbr5 hb hbr hbw
            go_wp2_with fail
            go_roundg (m - (i + 1))
            case measure => omega
            case rel => exact ⟨i + 1, _, u0, u1, u2, by go_num, by omega, rfl, HS2, HP2, HL2, HZ2, HB2⟩
          · have hx1 : ((readP p q).2 != 0) = true := by simpa using hx
            have HT := Lib.hid (show R0 = (zPrg, (readP p q).2) by rw [HP.out, HST.out, if_pos hx]; exact if_pos hx)
            have O2 : Own w5 w.heap.size zeroP 64 := (hbr5.block _ hRg).trans O2b.out
            have HB := Lib.hid (HB.out.trans (hbr5.mono HB.out.size))
            have d0 := O2.cell 0
            have d1 := O2.cell 1
            have d2 := O2.cell 2
            have d3 := O2.cell 3
            have d4 := O2.cell 4
            have d5 := O2.cell 5
            have d6 := O2.cell 6
            have dz := fun i => O2.fz i
            clear hx hb hbr hbw hps
            go_wp2_with fail
            refine ret_prg rfl rfl rfl (seven_own O2) ?_
            rw [HT.out]
            exact toldP_zero _ (seven_below HB.out (Nat.le_refl _))
        · have hdd : decide ((i : Int) < (m : Int)) = false := by rw [decide_eq_false_iff_not]; omega
          have hres : readsP zPrg (ls.take m) = (p, 0) := by
            rw [HS.out, List.drop_eq_nil_of_le (by rw [List.length_take]; omega)]; rfl
          have hP2 : R0 = if (toksR last).2 ≠ 0 then (zPrg, (toksR last).2) else ({ p with f3 := (toksR last).1 }, 0) := by
            rw [HP.out, hres, if_neg (fun h => h rfl)]
          have hml2 : m < ls.length := by have := HM.out; omega
          obtain ⟨ad, A0, c0, rfl, h0, hPc⟩ := piece_at hC' m hml2
          have hlm : ls[m] = last := by have := HLA.out; rw [List.getElem?_eq_getElem hml2] at this; exact Option.some.inj this
          have hq := HSZ.out ls[m] (List.getElem_mem hml2)
          have k0 : wr.cell? (ad.add m) = _ := (hbr.cell (p := ad.add m) (cell_lt h0)).trans h0
          rw [hlm] at k0 hPc hq
          clear hlm h0 hC'
          have hPw := hPc.to rfl hbr
          have KT := Lib.hid (toksC last A0 c0 hq.1 hq.2 wr (HG.out.below hbw) ⟨hPw.rd, hPw.le⟩)
          have p1 : (0 ≤ (m : Int)) = True := eq_true (by omega)
          have p2 : ((m : Int) < (m : Int) + 1) = True := eq_true (by omega)
          obtain ⟨B0, e0, rfl, hB0⟩ := HPP.out.s0
          obtain ⟨B1, e1, rfl, hB1⟩ := HPP.out.s1
          obtain ⟨B2, e2, rfl, hB2⟩ := HPP.out.s2
          have HP2 := Lib.hid hP2
          clear hPc hPw hq hres hP2
          generalize toksR last = T at *
          obtain ⟨t, x⟩ := T
          go_wp2_with fail
          refine KT.out.mono ?_
          rintro e w5 ⟨v, rfl, ⟨A3, c3, rfl, hl3, hC3⟩, hb⟩
          have hbr5 : Below w2.heap.size w2 w5 := hbr.trans (hb.mono (Nat.le_of_lt hgw))
          have HPS5 := Lib.hid (HPP.out.below hb)
          have OG : Own w5 w2.heap.size _ _ := HPS5.out.blk
          have gz := fun i => OG.fz i
          have q3 := OG.cell 3
          have q4 := OG.cell 4
          have q5 := OG.cell 5
          have q6 := OG.cell 6
          have OG6 := four3_own OG (d := .int .i64 t.f0) (e := .string t.f1) (f := .int .i64 t.f2) (g := .slice A3 t.f3.length c3)
          have g0 := OG6.cell 0
          have g1 := OG6.cell 1
          have g2 := OG6.cell 2
          have g3 := OG6.cell 3
          have g4 := OG6.cell 4
          have g5 := OG6.cell 5
          have g6 := OG6.cell 6
          have O2 : Own w5 w.heap.size zeroP 64 := (hbr5.block _ hRg).trans O2b.out
          have O2 := four3_far (R := w2.heap.size) (d := .int .i64 t.f0) (e := .string t.f1) (f := .int .i64 t.f2) (g := .slice A3 t.f3.length c3) O2 (by omega)
          have HB := Lib.hid (four3_below (R := w2.heap.size) (d := .int .i64 t.f0) (e := .string t.f1) (f := .int .i64 t.f2) (g := .slice A3 t.f3.length c3) (HB.out.trans (hbr5.mono HB.out.size)) (Nat.le_of_lt hRg))
          by_cases hx : x = 0
          · have hx1 : (x != 0) = false := by rw [hx]; rfl
            have HT := Lib.hid (HP2.out.trans (if_neg (fun h => h hx)))
            have HC3 := Lib.hid hC3
            have d0 := O2.cell 0
            have d1 := O2.cell 1
            have d2 := O2.cell 2
            have d3 := O2.cell 3
            have d4 := O2.cell 4
            have d5 := O2.cell 5
            have d6 := O2.cell 6
            have dz := fun i => O2.fz i
            clear hx hb hbr hbw hC3
            go_wp2_with fail
            refine ret_prg rfl rfl rfl (seven_own O2) ?_
            rw [HT.out]
            have N0 := seven_N (R := w.heap.size) (a := .slice B0 p.f0.length e0) (b := .slice B1 p.f1.length e1) (c := .slice B2 p.f2.length e2) (d := .int .i64 t.f0) (e := .string t.f1) (f := .int .i64 t.f2) (g := .slice A3 t.f3.length c3) (four3_N (R := w2.heap.size) (d := .int .i64 t.f0) (e := .string t.f1) (f := .int .i64 t.f2) (g := .slice A3 t.f3.length c3) HPS5.out.n0 (fun k hk => by have := hk.1; omega)) (fun k hk => by have := hk.1; omega)
            have N1 := seven_N (R := w.heap.size) (a := .slice B0 p.f0.length e0) (b := .slice B1 p.f1.length e1) (c := .slice B2 p.f2.length e2) (d := .int .i64 t.f0) (e := .string t.f1) (f := .int .i64 t.f2) (g := .slice A3 t.f3.length c3) (four3_N (R := w2.heap.size) (d := .int .i64 t.f0) (e := .string t.f1) (f := .int .i64 t.f2) (g := .slice A3 t.f3.length c3) HPS5.out.n1 (fun k hk => by have := hk.1; omega)) (fun k hk => by have := hk.1; omega)
            have N2 := seven_N (R := w.heap.size) (a := .slice B0 p.f0.length e0) (b := .slice B1 p.f1.length e1) (c := .slice B2 p.f2.length e2) (d := .int .i64 t.f0) (e := .string t.f1) (f := .int .i64 t.f2) (g := .slice A3 t.f3.length c3) (four3_N (R := w2.heap.size) (d := .int .i64 t.f0) (e := .string t.f1) (f := .int .i64 t.f2) (g := .slice A3 t.f3.length c3) HPS5.out.n2 (fun k hk => by have := hk.1; omega)) (fun k hk => by have := hk.1; omega)
            refine ⟨B0, e0, B1, e1, B2, e2, A3, c3, rfl, ⟨(Kd.N_reads' N0).2.2, hB0, (Kd.N_reads' N1).2.2, hB1, (Kd.N_reads' N2).2.2, hB2, A3, c3, rfl, hl3, HC3.out _ ?_⟩, seven_below HB.out (Nat.le_refl _)⟩
            have hgr : w.heap.size < wr.heap.size := by omega
            exact ((((((((((Same.refl _ _).set hgw _).set hgw _).set hgw _).set hgw _).set hgr _).set hgr _).set hgr _).set hgr _).set hgr _).set hgr _ |>.set hgr _
          · have hx1 : (x != 0) = true := by simpa using hx
            have HT := Lib.hid (HP2.out.trans (if_pos hx))
            have d0 := O2.cell 0
            have d1 := O2.cell 1
            have d2 := O2.cell 2
            have d3 := O2.cell 3
            have d4 := O2.cell 4
            have d5 := O2.cell 5
            have d6 := O2.cell 6
            have dz := fun i => O2.fz i
            clear hx hb hbr hbw
            go_wp2_with fail
            refine ret_prg rfl rfl rfl (seven_own O2) ?_
            rw [HT.out]
            exact toldP_zero _ (seven_below HB.out (Nat.le_refl _))
  · have hb1 : ((lexR s).2 != 0) = true := by simpa using h1
    have HT := Lib.hid (show progR s = (zPrg, (lexR s).2) by unfold progR; rw [if_pos h1])
    clear h1
    go_enter Tryz.func37, Tryz.ntmps37
    go_wp2_with fail
    refine K1.out.mono ?_
    rintro e w1 ⟨A, c, rfl, hr, -, hb⟩
    have O2 := O2.keep hb
    have HB := Lib.hid (HW.out.trans (hb.mono (by simp)))
    have d0 := O2.cell 0
    have d1 := O2.cell 1
    have d2 := O2.cell 2
    have d3 := O2.cell 3
    have d4 := O2.cell 4
    have d5 := O2.cell 5
    have d6 := O2.cell 6
    have dz := fun i => O2.fz i
    clear hb hr
    go_wp2_with fail
    refine ret_prg rfl rfl rfl (seven_own O2) ?_
    rw [HT.out]
    exact toldP_zero _ (seven_below HB.out (Nat.le_refl _))
end Go.Proofs.YtchekgnacodolaaGreatDoor.X
end
section
namespace Go.Proofs.YtchekgnacodolaaGreatDoor.X
open Go.RowKit Go.Proofs.YtchekgnacodolaaGreatDoorW.PrintWords Go.Proofs.YtchekgnacodolaaGreatDoorW.PrintLast Go.Proofs.YtchekgnacodolaaGreatDoorW.PrintMore
set_option linter.unusedSimpArgs false
set_option linter.unusedVariables false
theorem parse6 (s : List UInt8) (hl : s.length ≤ 9223372036854775807) (p : Prg) (n : Int) (h : progR s = (p, n)) (w : World) (hG : GL w) :
    Calls Tryz.prog 37 #[.string (B s)] w fun e w' => ∃ A0 c0 A1 c1 A2 c2 A3 c3, e = .returned (.tuple #[.agg (pgA p A0 c0 A1 c1 A2 c2 A3 c3), .int .i64 n]) ∧ PgC w' p A0 c0 A1 c1 A2 c2 A3 c3 ∧ Below w.heap.size w w' := by
  have := prgParseC s hl w hG
  rw [h] at this
  exact this
theorem ok_p6 : OkP p6 := by
  refine ⟨fun d hd => ?_, fun d hd => ?_, fun d hd => ?_, by decide, by decide⟩
  · simp only [p6, List.mem_singleton] at hd; subst hd; exact ⟨by decide, by decide⟩
  · simp only [p6, List.mem_singleton] at hd; subst hd; exact ⟨by decide, by decide⟩
  · simp only [p6, List.mem_singleton] at hd; subst hd; exact ⟨by decide, by decide, by decide⟩
theorem ok_z : OkP zPrg := ⟨fun d hd => absurd hd (by simp [zPrg]), fun d hd => absurd hd (by simp [zPrg]), fun d hd => absurd hd (by simp [zPrg]), by decide, by decide⟩
theorem pgc_z (w : World) : PgC w zPrg none 0 none 0 none 0 none 0 := ⟨C_nilK _ _, Nat.le_refl _, C_nilK _ _, Nat.le_refl _, C_nilK _ _, Nat.le_refl _, ⟨none, 0, rfl, Nat.le_refl _, C_nilK _ _⟩⟩
theorem prgSizeC (p : Prg) (h : sizeP p ≤ 9223372036854775806) (A0 : Option Addr) (c0 : Nat) (A1 : Option Addr) (c1 : Nat) (A2 : Option Addr) (c2 : Nat) (A3 : Option Addr) (c3 : Nat) (w : World) (hp : PgC w p A0 c0 A1 c1 A2 c2 A3 c3) :
    Calls Tryz.prog 45 #[.agg (pgA p A0 c0 A1 c1 A2 c2 A3 c3)] w fun e w' => e = .returned (.int .i64 (sizeP p : Int)) ∧ Below w.heap.size w w' := by
  obtain ⟨A4, c4, e4, hl4, hC4⟩ := hp.b
  simp only [Value.agg.injEq, Array.mk.injEq, List.cons.injEq, Value.slice.injEq, true_and, and_true] at e4
  obtain ⟨rfl, rfl⟩ := e4
  exact prog_Size.calls (2 * sizeP p + p.f2.length + 1) A0 c0 p.f0 A1 c1 p.f1 A2 c2 p.f2 p.f3.f0 p.f3.f1 p.f3.f2 A3 c3 p.f3.f3 (sizeP p) w hp.i hp.il hp.c hp.cl hp.d hp.dl hC4 hl4 (sizeP_eq p h)
set_option maxRecDepth 100000 in
set_option maxHeartbeats 8000000 in
theorem exam6C (w : World) (hG : GQ w) :
    Calls Tryz.prog 36 #[] w fun e w' => e = .returned (.bool true) ∧ Below w.heap.size w w' := by
  have K1 := Lib.hid (fun w hG => parse6 _ (by decide) p6 0 e61 w hG)
  have K2 := Lib.hid (fun w hG => parse6 _ (by decide) zPrg 2 e62 w hG)
  have K3 := Lib.hid (fun w hG => parse6 _ (by decide) zPrg 2 e63 w hG)
  have K4 := Lib.hid (fun w hG => parse6 _ (by decide) zPrg 2 e64 w hG)
  have HG := Lib.hid hG
  clear hG
  go_enter Tryz.func36, Tryz.ntmps36
  go_wp2_with fail
  refine (K1.out w HG.out.g).mono ?_
  rintro e w1 ⟨A0, c0, A1, c1, A2, c2, A3, c3, rfl, hP, hb⟩
  have O1 := Own.new w1 (pgA p6 A0 c0 A1 c1 A2 c2 A3 c3) 64
  have hA := below_alloc (Below.refl w1.heap.size w1) (.cells (pgA p6 A0 c0 A1 c1 A2 c2 A3 c3) 64)
  have HP := Lib.hid (hP.below hA)
  have HB := Lib.hid (hb.trans (hA.mono hb.size))
  clear hb hA hP
  go_wp2_with fail
  refine (K2.out _ (HG.out.below HB.out).g).mono ?_
  rintro e w2 ⟨B0, b0, B1, b1, B2, b2, B3, b3, rfl, -, hb⟩
  have hA := below_alloc (Below.refl w2.heap.size w2) (.cells (pgA zPrg B0 b0 B1 b1 B2 b2 B3 b3) 64)
  have hb := hb.trans (hA.mono hb.size)
  replace O1 := O1.keep hb
  replace HP := Lib.hid (HP.out.below hb)
  replace HB := Lib.hid (HB.out.trans (hb.mono HB.out.size))
  clear hb hA
  go_wp2_with fail
  refine (K3.out _ (HG.out.below HB.out).g).mono ?_
  rintro e w3 ⟨C0, e0, C1, e1, C2, e2, C3, e3, rfl, -, hb⟩
  have hA := below_alloc (Below.refl w3.heap.size w3) (.cells (pgA zPrg C0 e0 C1 e1 C2 e2 C3 e3) 64)
  have hb := hb.trans (hA.mono hb.size)
  replace O1 := O1.keep hb
  replace HP := Lib.hid (HP.out.below hb)
  replace HB := Lib.hid (HB.out.trans (hb.mono HB.out.size))
  clear hb hA
  go_wp2_with fail
  refine (K4.out _ (HG.out.below HB.out).g).mono ?_
  rintro e w4 ⟨D0, f0, D1, f1, D2, f2, D3, f3, rfl, -, hb⟩
  have hA := below_alloc (Below.refl w4.heap.size w4) (.cells (pgA zPrg D0 f0 D1 f1 D2 f2 D3 f3) 64)
  have hb := hb.trans (hA.mono hb.size)
  replace O1 := O1.keep hb
  replace HP := Lib.hid (HP.out.below hb)
  replace HB := Lib.hid (HB.out.trans (hb.mono HB.out.size))
  clear hb hA
  obtain ⟨ad, rfl, -, x1, -⟩ := Dl.at HP.out.i 0 (by decide)
  obtain ⟨bd, rfl, -, -, y2⟩ := Dl.at HP.out.c 0 (by decide)
  obtain ⟨cd, C4, c4, rfl, z0, -, -, -, -, -⟩ := DfR.at HP.out.d 0 (by decide)
  have x1 : World.cell? (w4.alloc (.cells (pgA zPrg D0 f0 D1 f1 D2 f2 D3 f3) 64)) ⟨ad.block, ad.off + 1, none⟩ = some (.string ⟨#[76, 111]⟩) := x1
  have y2 : World.cell? (w4.alloc (.cells (pgA zPrg D0 f0 D1 f1 D2 f2 D3 f3) 64)) ⟨bd.block, bd.off + 2, none⟩ = some (.int .i64 5) := y2
  have z0 : World.cell? (w4.alloc (.cells (pgA zPrg D0 f0 D1 f1 D2 f2 D3 f3) 64)) cd = some (.string ⟨#[102]⟩) := z0
  have d0 : World.cell? (w4.alloc (.cells (pgA zPrg D0 f0 D1 f1 D2 f2 D3 f3) 64)) ⟨w1.heap.size, 0, none⟩ = some (.slice (some ad) 1 c0) := O1.cell 0
  have d1 : World.cell? (w4.alloc (.cells (pgA zPrg D0 f0 D1 f1 D2 f2 D3 f3) 64)) ⟨w1.heap.size, 1, none⟩ = some (.slice (some bd) 1 c1) := O1.cell 1
  have d2 : World.cell? (w4.alloc (.cells (pgA zPrg D0 f0 D1 f1 D2 f2 D3 f3) 64)) ⟨w1.heap.size, 2, none⟩ = some (.slice (some cd) 1 c2) := O1.cell 2
  have d3 : World.cell? (w4.alloc (.cells (pgA zPrg D0 f0 D1 f1 D2 f2 D3 f3) 64)) ⟨w1.heap.size, 3, none⟩ = some (.int .i64 11) := O1.cell 3
  have d4 : World.cell? (w4.alloc (.cells (pgA zPrg D0 f0 D1 f1 D2 f2 D3 f3) 64)) ⟨w1.heap.size, 4, none⟩ = some (.string ⟨#[]⟩) := O1.cell 4
  have d5 : World.cell? (w4.alloc (.cells (pgA zPrg D0 f0 D1 f1 D2 f2 D3 f3) 64)) ⟨w1.heap.size, 5, none⟩ = some (.int .i64 0) := O1.cell 5
  have d6 : World.cell? (w4.alloc (.cells (pgA zPrg D0 f0 D1 f1 D2 f2 D3 f3) 64)) ⟨w1.heap.size, 6, none⟩ = some (.slice A3 2 c3) := O1.cell 6
  have KR := Lib.hid (fun W hp hG => prgRightC p6 ok_p6 (some ad) c0 (some bd) c1 (some cd) c2 A3 c3 W hp hG)
  have KS := Lib.hid (fun W hp => prgSizeC p6 (by decide) (some ad) c0 (some bd) c1 (some cd) c2 A3 c3 W hp)
  have KP := Lib.hid (fun W hp hG => prgPrintC p6 ok_p6 (some ad) c0 (some bd) c1 (some cd) c2 A3 c3 W hp hG)
  have KE := Lib.hid (fun W hp => prgSameC p6 p6 (by decide) (by decide) (some ad) c0 (some bd) c1 (some cd) c2 A3 c3 (some ad) c0 (some bd) c1 (some cd) c2 A3 c3 W hp hp)
  have KZ := Lib.hid (fun W hG => prgPrintC zPrg ok_z none 0 none 0 none 0 none 0 W (pgc_z W) hG)
  rw [e65] at KR KP
  rw [e66] at KS
  rw [e67] at KE
  rw [e68] at KZ
  rw [show B [105, 110, 112, 117, 116, 32, 120, 32, 58, 32, 76, 111, 32, 46, 10, 99, 101, 108, 108, 32, 99, 32, 58, 32, 72, 105, 32, 61, 32, 53, 32, 46, 10, 100, 101, 102, 32, 102, 32, 61, 32, 102, 117, 110, 32, 121, 32, 61, 62, 32, 121, 32, 46, 10, 99, 32, 58, 61, 32, 40, 32, 102, 32, 120, 32, 41, 10] = (⟨#[105, 110, 112, 117, 116, 32, 120, 32, 58, 32, 76, 111, 32, 46, 10, 99, 101, 108, 108, 32, 99, 32, 58, 32, 72, 105, 32, 61, 32, 53, 32, 46, 10, 100, 101, 102, 32, 102, 32, 61, 32, 102, 117, 110, 32, 121, 32, 61, 62, 32, 121, 32, 46, 10, 99, 32, 58, 61, 32, 40, 32, 102, 32, 120, 32, 41, 10]⟩ : ByteArray) from rfl] at KP
  rw [show B [] = (⟨#[]⟩ : ByteArray) from rfl] at KZ
  go_wp2_with fail
  refine (KR.out _ HP.out (HG.out.below HB.out)).mono ?_
  rintro e w5 ⟨rfl, hb⟩
  replace O1 := O1.keep hb
  replace HP := Lib.hid (HP.out.below hb)
  replace HB := Lib.hid (HB.out.trans (hb.mono HB.out.size))
  clear hb d0 d1 d2 d3 d4 d5 d6
  have d0 : World.cell? w5 ⟨w1.heap.size, 0, none⟩ = some (.slice (some ad) 1 c0) := O1.cell 0
  have d1 : World.cell? w5 ⟨w1.heap.size, 1, none⟩ = some (.slice (some bd) 1 c1) := O1.cell 1
  have d2 : World.cell? w5 ⟨w1.heap.size, 2, none⟩ = some (.slice (some cd) 1 c2) := O1.cell 2
  have d3 : World.cell? w5 ⟨w1.heap.size, 3, none⟩ = some (.int .i64 11) := O1.cell 3
  have d4 : World.cell? w5 ⟨w1.heap.size, 4, none⟩ = some (.string ⟨#[]⟩) := O1.cell 4
  have d5 : World.cell? w5 ⟨w1.heap.size, 5, none⟩ = some (.int .i64 0) := O1.cell 5
  have d6 : World.cell? w5 ⟨w1.heap.size, 6, none⟩ = some (.slice A3 2 c3) := O1.cell 6
  go_wp2_with fail
  refine (KS.out _ HP.out).mono ?_
  rintro e w6 ⟨rfl, hb⟩
  replace O1 := O1.keep hb
  replace HP := Lib.hid (HP.out.below hb)
  replace HB := Lib.hid (HB.out.trans (hb.mono HB.out.size))
  clear hb d0 d1 d2 d3 d4 d5 d6
  have d0 : World.cell? w6 ⟨w1.heap.size, 0, none⟩ = some (.slice (some ad) 1 c0) := O1.cell 0
  have d1 : World.cell? w6 ⟨w1.heap.size, 1, none⟩ = some (.slice (some bd) 1 c1) := O1.cell 1
  have d2 : World.cell? w6 ⟨w1.heap.size, 2, none⟩ = some (.slice (some cd) 1 c2) := O1.cell 2
  have d3 : World.cell? w6 ⟨w1.heap.size, 3, none⟩ = some (.int .i64 11) := O1.cell 3
  have d4 : World.cell? w6 ⟨w1.heap.size, 4, none⟩ = some (.string ⟨#[]⟩) := O1.cell 4
  have d5 : World.cell? w6 ⟨w1.heap.size, 5, none⟩ = some (.int .i64 0) := O1.cell 5
  have d6 : World.cell? w6 ⟨w1.heap.size, 6, none⟩ = some (.slice A3 2 c3) := O1.cell 6
  go_wp2_with fail
  refine (KP.out _ HP.out (HG.out.below HB.out)).mono ?_
  rintro e w7 ⟨rfl, hb⟩
  replace O1 := O1.keep hb
  replace HP := Lib.hid (HP.out.below hb)
  replace HB := Lib.hid (HB.out.trans (hb.mono HB.out.size))
  clear hb d0 d1 d2 d3 d4 d5 d6
  have d0 : World.cell? w7 ⟨w1.heap.size, 0, none⟩ = some (.slice (some ad) 1 c0) := O1.cell 0
  have d1 : World.cell? w7 ⟨w1.heap.size, 1, none⟩ = some (.slice (some bd) 1 c1) := O1.cell 1
  have d2 : World.cell? w7 ⟨w1.heap.size, 2, none⟩ = some (.slice (some cd) 1 c2) := O1.cell 2
  have d3 : World.cell? w7 ⟨w1.heap.size, 3, none⟩ = some (.int .i64 11) := O1.cell 3
  have d4 : World.cell? w7 ⟨w1.heap.size, 4, none⟩ = some (.string ⟨#[]⟩) := O1.cell 4
  have d5 : World.cell? w7 ⟨w1.heap.size, 5, none⟩ = some (.int .i64 0) := O1.cell 5
  have d6 : World.cell? w7 ⟨w1.heap.size, 6, none⟩ = some (.slice A3 2 c3) := O1.cell 6
  go_wp2_with fail
  refine (KE.out _ HP.out).mono ?_
  rintro e w8 ⟨rfl, hb⟩
  replace O1 := O1.keep hb
  replace HP := Lib.hid (HP.out.below hb)
  replace HB := Lib.hid (HB.out.trans (hb.mono HB.out.size))
  clear hb d0 d1 d2 d3 d4 d5 d6
  have d0 : World.cell? w8 ⟨w1.heap.size, 0, none⟩ = some (.slice (some ad) 1 c0) := O1.cell 0
  have d1 : World.cell? w8 ⟨w1.heap.size, 1, none⟩ = some (.slice (some bd) 1 c1) := O1.cell 1
  have d2 : World.cell? w8 ⟨w1.heap.size, 2, none⟩ = some (.slice (some cd) 1 c2) := O1.cell 2
  have d3 : World.cell? w8 ⟨w1.heap.size, 3, none⟩ = some (.int .i64 11) := O1.cell 3
  have d4 : World.cell? w8 ⟨w1.heap.size, 4, none⟩ = some (.string ⟨#[]⟩) := O1.cell 4
  have d5 : World.cell? w8 ⟨w1.heap.size, 5, none⟩ = some (.int .i64 0) := O1.cell 5
  have d6 : World.cell? w8 ⟨w1.heap.size, 6, none⟩ = some (.slice A3 2 c3) := O1.cell 6
  go_wp2_with fail
  refine (KZ.out _ (HG.out.below HB.out)).mono ?_
  rintro e w9 ⟨rfl, hb⟩
  replace HB := Lib.hid (HB.out.trans (hb.mono HB.out.size))
  clear hb
  go_wp2_with fail
  go_ret
  exact ⟨rfl, HB.out⟩
end Go.Proofs.YtchekgnacodolaaGreatDoor.X
end

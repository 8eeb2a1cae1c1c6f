-- Joined by our own program (wip/tools/prune.py) out of the seat's texts, less what this claim doesn't name.
import Derived.Deep.QuietTactic
import Derived.BigQuiet
import Derived.Deep.RegionHeld3
import Derived.Test.YtchekgnacodolaaGreatDoorJ6
import Derived.Test.YtchekgnacodolaaGreatDoorJ7
import Derived.Test.YtchekgnacodolaaGreatDoorJ9
import Derived.Test.YtchekgnacodolaaGreatDoorJ13
import Derived.Test.YtchekgnacodolaaGreatDoorJ16
import Derived.Test.YtchekgnacodolaaGreatDoorJ17
section
namespace Go.Proofs.YtchekgnacodolaaGreatDoor.X
open Go.RowKit Go.Proofs.YtchekgnacodolaaGreatDoorW.PrintWords Go.Proofs.YtchekgnacodolaaGreatDoorW.PrintLast Go.Proofs.YtchekgnacodolaaGreatDoorW.PrintMore
set_option linter.unusedSimpArgs false
set_option linter.unusedVariables false
def kidTab : List Int := [-1, 0, 0, 1, 2, 2, 3, 2, 1, 2, 1, 2, 2, 2]
structure GT (w : World) : Prop where
  kids : w.var? Tryz.prog "chancel/term.kids" = some (kidTab.map (Value.int .i64)).toArray
  ops : w.var? Tryz.prog "chancel/term.ops" = some (opWords.map Value.string).toArray
theorem GT.below {w w1 : World} (h : GT w) (hb : Below w.heap.size w w1) : GT w1 := ⟨var?_kept hb h.kids, var?_kept hb h.ops⟩
theorem gkids : Tryz.prog.globalNamed "chancel/term.kids" = some 1 := by kernel_rfl
theorem gops : Tryz.prog.globalNamed "chancel/term.ops" = some 2 := by kernel_rfl
theorem GT.kid {w : World} (h : GT w) (i : Nat) : w.cell? ⟨1, i, none⟩ = (kidTab.map (Value.int .i64))[i]? := by
  rw [World.var?_cell gkids h.kids i]; simp
theorem GT.op {w : World} (h : GT w) (i : Nat) : w.cell? ⟨2, i, none⟩ = (opWords.map Value.string)[i]? := by
  rw [World.var?_cell gops h.ops i]; simp
theorem kid_at {k : Int} (h1 : 1 ≤ k) (h2 : k < 14) : (kidTab.map (Value.int .i64))[k.toNat]? = some (.int .i64 (kidsOf k)) := by
  obtain ⟨n, rfl⟩ : ∃ n : Nat, k = n := ⟨k.toNat, by omega⟩
  have : n < 14 := by omega
  have : n = 1 ∨ n = 2 ∨ n = 3 ∨ n = 4 ∨ n = 5 ∨ n = 6 ∨ n = 7 ∨ n = 8 ∨ n = 9 ∨ n = 10 ∨ n = 11 ∨ n = 12 ∨ n = 13 := by omega
  rcases this with rfl | rfl | rfl | rfl | rfl | rfl | rfl | rfl | rfl | rfl | rfl | rfl | rfl <;> rfl
theorem node_false {k : Int} {nm : ByteArray} {n c : Int} (h : ¬ (1 ≤ k ∧ k < 14 ∧ c = kidsOf k ∧ 0 ≤ n ∧ n < 2147483648 ∧ (k = 1 ∨ n = 0))) : nodeB k nm n c = false := by
  cases hb : nodeB k nm n c with
  | false => rfl
  | true =>
    unfold nodeB at hb
    simp only [Bool.and_eq_true, Bool.or_eq_true, decide_eq_true_eq] at hb
    exact absurd ⟨hb.1.1.1.1.1.1, hb.1.1.1.1.1.2, hb.1.1.1.1.2, hb.1.1.1.2, hb.1.1.2, hb.1.2⟩ h
set_option maxRecDepth 100000 in
set_option maxHeartbeats 8000000 in
theorem node_bad (k : Int) (nm : ByteArray) (n : Int) (A : Option Addr) (c : Nat) (l : List Tm) (w : World) (hT : GT w) (h : ¬ (1 ≤ k ∧ k < 14 ∧ (l.length : Int) = kidsOf k ∧ 0 ≤ n ∧ n < 2147483648 ∧ (k = 1 ∨ n = 0))) :
    Calls Tryz.prog 67 #[.agg #[.int .i64 k, .string nm, .int .i64 n, .slice A l.length c]] w fun e w' => e = .returned (.bool false) ∧ Below w.heap.size w w' := by
  have hT := hT.below (below_alloc (Below.refl _ _) (.cells #[.int .i64 k, .string nm, .int .i64 n, .slice A l.length c] 26))
  have HK := Lib.hid (fun h1 h2 => (hT.kid k.toNat).trans (kid_at (k := k) h1 h2))
  have H := Lib.hid h
  clear h hT
  have B1 := Own.new w #[.int .i64 k, .string nm, .int .i64 n, .slice A l.length c] 26
  have b0 := B1.cell 0
  have b1 := B1.cell 1
  have b2 := B1.cell 2
  have b3 := B1.cell 3
  by_cases c1 : k < 1
  · have d1 : decide (k < 1) = true := by rw [decide_eq_true_eq]; omega
    clear c1
    clear HK H
    go_enter Tryz.func67, Tryz.ntmps67
    go_wp2_with fail
    go_quiet (fail)
    go_wp2_with fail
    go_ret
    exact ⟨rfl, by first | exact pw_below_drewN (below_alloc (Below.refl _ _) _) _ | exact below_alloc (Below.refl _ _) _⟩
  · have d1 : decide (k < 1) = false := by rw [decide_eq_false_iff_not]; omega
    by_cases c2 : 14 ≤ k
    · have d2 : decide (14 ≤ k) = true := by rw [decide_eq_true_eq]; omega
      clear c1 c2
      clear HK H
      go_enter Tryz.func67, Tryz.ntmps67
      go_wp2_with fail
      go_quiet (fail)
      go_wp2_with fail
      go_ret
      exact ⟨rfl, by first | exact pw_below_drewN (below_alloc (Below.refl _ _) _) _ | exact below_alloc (Below.refl _ _) _⟩
    · have d2 : decide (14 ≤ k) = false := by rw [decide_eq_false_iff_not]; omega
      have d3 : decide (0 ≤ k) = true := by rw [decide_eq_true_eq]; omega
      have d4 : decide (k < 14) = true := by rw [decide_eq_true_eq]; omega
      have hk := HK.out (by omega) (by omega)
      have p0 : 0 ≤ k := by omega
      have p14 : k < 14 := by omega
      by_cases c3 : (l.length : Int) = kidsOf k
      · have d5 : ((l.length : Int) != kidsOf k) = false := by rw [c3]; simp
        by_cases c4 : n < 0
        · have d6 : decide (n < 0) = true := by rw [decide_eq_true_eq]; omega
          clear c1 c2 c3 c4
          generalize kidsOf k = q at *
          clear HK H
          go_enter Tryz.func67, Tryz.ntmps67
          go_wp2_with fail
          go_quiet (fail)
          go_wp2_with fail
          go_ret
          exact ⟨rfl, by first | exact pw_below_drewN (below_alloc (Below.refl _ _) _) _ | exact below_alloc (Below.refl _ _) _⟩
        · have d6 : decide (n < 0) = false := by rw [decide_eq_false_iff_not]; omega
          by_cases c5 : 2147483648 ≤ n
          · have d7 : decide (2147483648 ≤ n) = true := by rw [decide_eq_true_eq]; omega
            clear c1 c2 c3 c4 c5
            generalize kidsOf k = q at *
            clear HK H
            go_enter Tryz.func67, Tryz.ntmps67
            go_wp2_with fail
            go_quiet (fail)
            go_wp2_with fail
            go_ret
            exact ⟨rfl, by first | exact pw_below_drewN (below_alloc (Below.refl _ _) _) _ | exact below_alloc (Below.refl _ _) _⟩
          · have d7 : decide (2147483648 ≤ n) = false := by rw [decide_eq_false_iff_not]; omega
            have c6 : ¬ k = 1 ∧ ¬ n = 0 := by
              refine ⟨fun e => H.out ⟨by omega, by omega, c3, by omega, by omega, .inl e⟩, fun e => H.out ⟨by omega, by omega, c3, by omega, by omega, .inr e⟩⟩
            have d8 : (k != 1) = true := by simpa using c6.1
            have d9 : (n != 0) = true := by simpa using c6.2
            clear c1 c2 c3 c4 c5 c6
            generalize kidsOf k = q at *
            clear HK H
            go_enter Tryz.func67, Tryz.ntmps67
            go_wp2_with fail
            go_quiet (fail)
            go_wp2_with fail
            go_ret
            exact ⟨rfl, by first | exact pw_below_drewN (below_alloc (Below.refl _ _) _) _ | exact below_alloc (Below.refl _ _) _⟩
      · have d5 : ((l.length : Int) != kidsOf k) = true := by simpa using c3
        clear c1 c2 c3
        generalize kidsOf k = q at *
        clear HK H
        go_enter Tryz.func67, Tryz.ntmps67
        go_wp2_with fail
        go_quiet (fail)
        go_wp2_with fail
        go_ret
        exact ⟨rfl, by first | exact pw_below_drewN (below_alloc (Below.refl _ _) _) _ | exact below_alloc (Below.refl _ _) _⟩
theorem ops_C {w : World} (h : GT w) : Kd.C Kd.string w (some ⟨2, 0, none⟩) opWords.length opWords := by
  refine ⟨rfl, by decide, fun _ => ⟨_, rfl, fun j p hj => ⟨[.string p], rfl, rfl, fun i u hi => ?_⟩⟩⟩
  cases i with
  | zero =>
    injection hi with hi
    subst hi
    show w.cell? (((⟨2, 0, none⟩ : Addr).add (j * 1)).add 0) = _
    rw [Nat.mul_one, add_add, Nat.add_zero, add_plain, h.op j, List.getElem?_map, hj]; rfl
  | succ i => cases hi
theorem index_loop (l : List ByteArray) (nm : ByteArray) (hl : l.length ≤ 1000) (d : Nat) : ∀ (k i : Nat), i ≤ l.length → l.length - i = d → d < k →
    ∃ r, slices_Index_string_string.l0 k l nm (l.length : Int) (i : Int) = some r ∧ (0 ≤ r ↔ (l.drop i).any (fun o => o.data.toList == nm.data.toList) = true) := by
  induction d with
  | zero =>
    intro k i h1 h2 h3
    obtain ⟨k, rfl⟩ : ∃ m, k = m + 1 := ⟨k - 1, by omega⟩
    simp only [slices_Index_string_string.l0]
    rw [if_neg (by omega), List.drop_of_length_le (by omega)]
    exact ⟨_, rfl, by simp⟩
  | succ d ih =>
    intro k i h1 h2 h3
    obtain ⟨k, rfl⟩ : ∃ m, k = m + 1 := ⟨k - 1, by omega⟩
    have hlt : i < l.length := by omega
    simp only [slices_Index_string_string.l0]
    rw [if_pos (by omega), if_pos (by omega), if_pos (by omega), List.drop_eq_getElem_cons hlt, List.any_cons]
    have e0 : rdOf ByteArray.empty l (i : Int) = l[i] := by unfold rdOf; simp [List.getD_eq_getElem?_getD, List.getElem?_eq_getElem hlt]
    rw [e0, ByteArray.toList_eq, ByteArray.toList_eq]
    by_cases h : nm.data.toList = l[i].data.toList
    · rw [if_pos h]
      exact ⟨_, rfl, by simp [h]⟩
    · rw [if_neg h, wrap_id (by omega) (by omega)]
      obtain ⟨r, hr, hi⟩ := ih k (i + 1) (by omega) (by omega) (by omega)
      refine ⟨r, hr, hi.trans ?_⟩
      have : (l[i].data.toList == nm.data.toList) = false := by rw [beq_eq_false_iff_ne]; exact fun e => h e.symm
      rw [this, Bool.false_or]
theorem contains_ops (nm : ByteArray) : slices_Contains_string_string.f 10 opWords nm = some (opWords.any (fun o => o.data.toList == nm.data.toList)) := by
  obtain ⟨r, hr, hi⟩ := index_loop opWords nm (by decide) opWords.length 10 0 (by omega) (by omega) (by decide)
  unfold slices_Contains_string_string.f slices_Index_string_string.f
  rw [show ((0 : Nat) : Int) = 0 from rfl] at hr
  rw [hr, Option.bind_some, List.drop_zero] at *
  congr 1
  cases hb : opWords.any (fun o => o.data.toList == nm.data.toList) with
  | true => rw [hb] at hi; simpa using hi.2 rfl
  | false => rw [hb] at hi; simp at hi; simp; omega
theorem binder_f (k : Int) (nm : ByteArray) (n : Int) (l : List Tm) : term_Binder.f k nm n l = some (binderK k) := by
  unfold term_Binder.f binderK
  by_cases h3 : k = 3
  · subst h3; rfl
  · rw [if_neg h3]
    by_cases h5 : k = 5
    · subst h5; rfl
    · rw [if_neg h5]
      have e3 : (k == 3) = false := by simpa using h3
      have e5 : (k == 5) = false := by simpa using h5
      rw [e3, e5]; rfl
theorem nodeB_good {k : Int} {nm : ByteArray} {n c : Int} (h : 1 ≤ k ∧ k < 14 ∧ c = kidsOf k ∧ 0 ≤ n ∧ n < 2147483648 ∧ (k = 1 ∨ n = 0)) : nodeB k nm n c = (if binderK k = true ∨ k = 2 then wordB nm else if k = 12 then opWords.any (fun o => o.data.toList == nm.data.toList) else nm.data.toList == []) := by
  obtain ⟨h1, h2, h3, h4, h5, h6⟩ := h
  unfold nodeB
  have h6' : (decide (k = 1) || decide (n = 0)) = true := by simpa using h6
  rw [h6']
  simp [h1, h2, h3, h4, h5]
set_option maxRecDepth 100000 in
set_option maxHeartbeats 8000000 in
theorem node_good (k : Int) (nm : ByteArray) (n : Int) (A : Option Addr) (c : Nat) (l : List Tm) (w : World) (hG : GL w) (hT : GT w) (hr : Kd.C k26 w A l.length l) (hc : l.length ≤ c) (hnm : nm.size ≤ 281474976710656) (h : 1 ≤ k ∧ k < 14 ∧ (l.length : Int) = kidsOf k ∧ 0 ≤ n ∧ n < 2147483648 ∧ (k = 1 ∨ n = 0)) :
    Calls Tryz.prog 67 #[.agg #[.int .i64 k, .string nm, .int .i64 n, .slice A l.length c]] w fun e w' => e = .returned (.bool (nodeB k nm n l.length)) ∧ Below w.heap.size w w' := by
  rw [nodeB_good h]
  obtain ⟨r, hres⟩ : ∃ r, (if binderK k = true ∨ k = 2 then wordB nm else if k = 12 then opWords.any (fun o => o.data.toList == nm.data.toList) else nm.data.toList == []) = r := ⟨_, rfl⟩
  rw [hres]
  have HRS := Lib.hid hres
  clear hres
  have HA := Lib.hid (below_alloc (Below.refl w.heap.size w) (.cells #[.int .i64 k, .string nm, .int .i64 n, .slice A l.length c] 26))
  have hG := hG.below HA.out
  have hT := hT.below HA.out
  have hr := Kd.C_below hr HA.out
  have hk := (hT.kid k.toNat).trans (kid_at (k := k) h.1 h.2.1)
  have B1 := Own.new w #[.int .i64 k, .string nm, .int .i64 n, .slice A l.length c] 26
  have b0 := B1.cell 0
  have b1 := B1.cell 1
  have b2 := B1.cell 2
  have b3 := B1.cell 3
  have d1 : decide (k < 1) = false := by rw [decide_eq_false_iff_not]; omega
  have d2 : decide (14 ≤ k) = false := by rw [decide_eq_false_iff_not]; omega
  have d3 : decide (0 ≤ k) = true := by rw [decide_eq_true_eq]; omega
  have d4 : decide (k < 14) = true := by rw [decide_eq_true_eq]; omega
  have p0 : 0 ≤ k := by omega
  have p14 : k < 14 := h.2.1
  have d5 : ((l.length : Int) != kidsOf k) = false := by rw [h.2.2.1]; simp
  have d6 : decide (n < 0) = false := by rw [decide_eq_false_iff_not]; omega
  have d7 : decide (2147483648 ≤ n) = false := by rw [decide_eq_false_iff_not]; omega
  have d8 : (k != 1) = false ∨ ((k != 1) = true ∧ (n != 0) = false) := by
    by_cases e : k = 1
    · exact .inl (by rw [e]; rfl)
    · exact .inr ⟨by simpa using e, by rcases h.2.2.2.2.2 with e' | e'; exact absurd e' e; rw [e']; rfl⟩
  have HG := Lib.hid hG
  have HT := Lib.hid hT
  have HR := Lib.hid hr
  have HC := Lib.hid hc
  have HNM := Lib.hid hnm
  clear hG hT hr hc hnm h
  generalize kidsOf k = q at *
  have HBK := Lib.hid (binder_f k nm n l)
  rcases d8 with d8 | ⟨d8, d9⟩
  · go_enter Tryz.func67, Tryz.ntmps67
    go_wp2_with fail
    go_quiet (fail)
    go_wp2_with fail
    have hd := pw_below_drewN (Below.refl (w.alloc (.cells #[.int .i64 k, .string nm, .int .i64 n, .slice A l.length c] 26)).heap.size (w.alloc (.cells #[.int .i64 k, .string nm, .int .i64 n, .slice A l.length c] 26))) nq
    refine (term_Binder.calls k nm n A c l (binderK k) _ (Kd.C_below HR.out hd) HC.out HBK.out).mono ?_
    rintro e w1 ⟨rfl, hb⟩
    have hb := hd.trans hb
    have HG := Lib.hid (HG.out.below hb)
    have HT := Lib.hid (HT.out.below hb)
    have HB := Lib.hid (HA.out.trans (hb.mono HA.out.size))
    have B1 : Own _ _ _ _ := blk_below B1 hb
    have b0 := B1.cell 0
    have b1 := B1.cell 1
    have KN := nameC nm.data.toList (by rw [← size_len]; have := HNM.out; omega) w1
    rw [B_of] at KN
    have KN := Lib.hid KN
    have HKW := Lib.hid (fun w2 hb => keywordC nm w2 (HG.out.below hb))
    clear hb hd
    by_cases hw : binderK k = true ∨ k = 2
    · have hres := HRS.out
      rw [if_pos hw, wordB] at hres
      have hor : binderK k = true ∨ (binderK k = false ∧ (k == 2) = true) := by
        rcases hw with h | h
        · exact .inl h
        · cases hb : binderK k with
          | true => exact .inl rfl
          | false => exact .inr ⟨rfl, by rw [h]; rfl⟩
      clear hw
      rcases hor with f1 | ⟨f1, f2⟩
      all_goals
        rcases hnb : nameL nm.data.toList with _ | _
        all_goals rw [hnb] at hres KN
        all_goals have HRES := Lib.hid hres
        all_goals clear hres hnb
        · simp only [Bool.false_and] at HRES
          go_wp2_with fail
          refine KN.out.mono ?_
          rintro e w2 ⟨rfl, hb⟩
          have HB := Lib.hid (HB.out.trans (hb.mono HB.out.size))
          clear hb
          go_wp2_with fail
          go_ret
          exact ⟨by rw [← HRES.out]; rfl, HB.out⟩
        · simp only [Bool.true_and] at HRES
          go_wp2_with fail
          refine KN.out.mono ?_
          rintro e w2 ⟨rfl, hb⟩
          have KW := Lib.hid (HKW.out w2 hb)
          have HB := Lib.hid (HB.out.trans (hb.mono HB.out.size))
          have B1 : Own _ _ _ _ := blk_below B1 hb
          have b1 := B1.cell 1
          clear hb
          go_wp2_with fail
          refine KW.out.mono ?_
          rintro e w3 ⟨rfl, hb⟩
          have HB := Lib.hid (HB.out.trans (hb.mono HB.out.size))
          clear hb
          go_wp2_with fail
          go_ret
          exact ⟨by rw [← HRES.out]; rfl, HB.out⟩
    · have hres := HRS.out
      rw [if_neg hw] at hres
      have f1 : binderK k = false := by cases hb : binderK k with
        | true => exact absurd (.inl hb) hw
        | false => rfl
      have f2 : (k == 2) = false := by
        have : ¬ k = 2 := fun h => hw (.inr h)
        simpa using this
      clear hw
      by_cases h12 : k = 12
      · rw [if_pos h12] at hres
        have HRES := Lib.hid hres
        clear hres
        have f3 : (k == 12) = true := by rw [h12]; rfl
        clear h12
        have KC : Aside0 (∀ m, Calls Tryz.prog 111 #[.slice (some ⟨2, 0, none⟩) 5 5, .string nm] (w1.drewN m) fun e w' => e = .returned (.bool (opWords.any (fun o => o.data.toList == nm.data.toList))) ∧ Drawn0 (w1.drewN m) w') := Aside0.mk (fun m => slices_Contains_string_string.calls 10 (some ⟨2, 0, none⟩) 5 opWords nm _ (w1.drewN m) (ops_C (HT.out.below (pw_below_drewN (Below.refl w1.heap.size w1) m))) (by decide) (contains_ops nm))
        generalize (opWords.any fun o => o.data.toList == nm.data.toList) = ob at *
        go_wp2_with fail
        go_quiet ((go_at_call 111; exact Calls.quiet_of (Calls.mono (KC.out _) fun e w2 h => ⟨h.1, h.2.out⟩)))
        go_wp2_with fail
        go_ret
        exact ⟨by rw [← HRES.out]; rfl, pw_below_drewN HB.out _⟩
      · rw [if_neg h12] at hres
        have HRES := Lib.hid hres
        clear hres
        have f3 : (k == 12) = false := by simpa using h12
        clear h12
        go_wp2_with fail
        go_ret
        refine ⟨?_, HB.out⟩
        rw [← HRES.out, ← ByteArray.toList_eq]
        first | rfl | (simp; done)
  · go_enter Tryz.func67, Tryz.ntmps67
    go_wp2_with fail
    go_quiet (fail)
    go_wp2_with fail
    have hd := pw_below_drewN (Below.refl (w.alloc (.cells #[.int .i64 k, .string nm, .int .i64 n, .slice A l.length c] 26)).heap.size (w.alloc (.cells #[.int .i64 k, .string nm, .int .i64 n, .slice A l.length c] 26))) nq
    refine (term_Binder.calls k nm n A c l (binderK k) _ (Kd.C_below HR.out hd) HC.out HBK.out).mono ?_
    rintro e w1 ⟨rfl, hb⟩
    have hb := hd.trans hb
    have HG := Lib.hid (HG.out.below hb)
    have HT := Lib.hid (HT.out.below hb)
    have HB := Lib.hid (HA.out.trans (hb.mono HA.out.size))
    have B1 : Own _ _ _ _ := blk_below B1 hb
    have b0 := B1.cell 0
    have b1 := B1.cell 1
    have KN := nameC nm.data.toList (by rw [← size_len]; have := HNM.out; omega) w1
    rw [B_of] at KN
    have KN := Lib.hid KN
    have HKW := Lib.hid (fun w2 hb => keywordC nm w2 (HG.out.below hb))
    clear hb hd
    by_cases hw : binderK k = true ∨ k = 2
    · have hres := HRS.out
      rw [if_pos hw, wordB] at hres
      have hor : binderK k = true ∨ (binderK k = false ∧ (k == 2) = true) := by
        rcases hw with h | h
        · exact .inl h
        · cases hb : binderK k with
          | true => exact .inl rfl
          | false => exact .inr ⟨rfl, by rw [h]; rfl⟩
      clear hw
      rcases hor with f1 | ⟨f1, f2⟩
      all_goals
        rcases hnb : nameL nm.data.toList with _ | _
        all_goals rw [hnb] at hres KN
        all_goals have HRES := Lib.hid hres
        all_goals clear hres hnb
        · simp only [Bool.false_and] at HRES
          go_wp2_with fail
          refine KN.out.mono ?_
          rintro e w2 ⟨rfl, hb⟩
          have HB := Lib.hid (HB.out.trans (hb.mono HB.out.size))
          clear hb
          go_wp2_with fail
          go_ret
          exact ⟨by rw [← HRES.out]; rfl, HB.out⟩
        · simp only [Bool.true_and] at HRES
          go_wp2_with fail
          refine KN.out.mono ?_
          rintro e w2 ⟨rfl, hb⟩
          have KW := Lib.hid (HKW.out w2 hb)
          have HB := Lib.hid (HB.out.trans (hb.mono HB.out.size))
          have B1 : Own _ _ _ _ := blk_below B1 hb
          have b1 := B1.cell 1
          clear hb
          go_wp2_with fail
          refine KW.out.mono ?_
          rintro e w3 ⟨rfl, hb⟩
          have HB := Lib.hid (HB.out.trans (hb.mono HB.out.size))
          clear hb
          go_wp2_with fail
          go_ret
          exact ⟨by rw [← HRES.out]; rfl, HB.out⟩
    · have hres := HRS.out
      rw [if_neg hw] at hres
      have f1 : binderK k = false := by cases hb : binderK k with
        | true => exact absurd (.inl hb) hw
        | false => rfl
      have f2 : (k == 2) = false := by
        have : ¬ k = 2 := fun h => hw (.inr h)
        simpa using this
      clear hw
      by_cases h12 : k = 12
      · rw [if_pos h12] at hres
        have HRES := Lib.hid hres
        clear hres
        have f3 : (k == 12) = true := by rw [h12]; rfl
        clear h12
        have KC : Aside0 (∀ m, Calls Tryz.prog 111 #[.slice (some ⟨2, 0, none⟩) 5 5, .string nm] (w1.drewN m) fun e w' => e = .returned (.bool (opWords.any (fun o => o.data.toList == nm.data.toList))) ∧ Drawn0 (w1.drewN m) w') := Aside0.mk (fun m => slices_Contains_string_string.calls 10 (some ⟨2, 0, none⟩) 5 opWords nm _ (w1.drewN m) (ops_C (HT.out.below (pw_below_drewN (Below.refl w1.heap.size w1) m))) (by decide) (contains_ops nm))
        generalize (opWords.any fun o => o.data.toList == nm.data.toList) = ob at *
        go_wp2_with fail
        go_quiet ((go_at_call 111; exact Calls.quiet_of (Calls.mono (KC.out _) fun e w2 h => ⟨h.1, h.2.out⟩)))
        go_wp2_with fail
        go_ret
        exact ⟨by rw [← HRES.out]; rfl, pw_below_drewN HB.out _⟩
      · rw [if_neg h12] at hres
        have HRES := Lib.hid hres
        clear hres
        have f3 : (k == 12) = false := by simpa using h12
        clear h12
        go_wp2_with fail
        go_ret
        refine ⟨?_, HB.out⟩
        rw [← HRES.out, ← ByteArray.toList_eq]
        first | rfl | (simp; done)
end Go.Proofs.YtchekgnacodolaaGreatDoor.X
end
section
namespace Go.Proofs.YtchekgnacodolaaGreatDoor.X
open Go.RowKit Go.Proofs.YtchekgnacodolaaGreatDoorW.PrintWords Go.Proofs.YtchekgnacodolaaGreatDoorW.PrintLast Go.Proofs.YtchekgnacodolaaGreatDoorW.PrintMore
set_option linter.unusedSimpArgs false
set_option linter.unusedVariables false
abbrev wrongV (B : Nat) : Value := .func (.func 66) #[] #[.pointer (some ⟨B, 0, none⟩)]
mutual
def namesT : Tm → Bool
  | ⟨_, nm, _, l⟩ => decide (nm.size ≤ 281474976710656) && namessT l
def namessT : List Tm → Bool
  | [] => true
  | t :: l => namesT t && namessT l
end
theorem namessT_mem : ∀ {l : List Tm}, namessT l = true → ∀ t ∈ l, namesT t = true
  | [], _, t, h => by cases h
  | a :: l, h, t, ht => by
    rw [namessT, Bool.and_eq_true] at h
    rcases List.mem_cons.1 ht with rfl | ht
    · exact h.1
    · exact namessT_mem h.2 t ht
def WrongH (t : Tm) : Prop := ∀ (vt : Value) (B : Nat) (w : World), TmR w t vt → namesT t = true → GL w → GT w → w.cell? ⟨B, 0, none⟩ = some (wrongV B) →
  Calls Tryz.prog 66 #[vt, .pointer (some ⟨B, 0, none⟩)] w fun e w' => e = .returned (.bool (!nodesT t)) ∧ Below w.heap.size w w'
set_option maxRecDepth 100000 in
set_option maxHeartbeats 4000000 in
theorem indexWrong (l : List Tm) (ih : ∀ t ∈ l, WrongH t) (hn : namessT l = true) (A : Option Addr) (c B : Nat) (w : World) (hA : Kd.C k26 w A l.length l) (hG : GL w) (hT : GT w) (hB : w.cell? ⟨B, 0, none⟩ = some (wrongV B)) :
    Calls Tryz.prog 112 #[.slice A l.length c, wrongV B] w fun e w' => (∃ i : Int, e = .returned (.int .i64 i) ∧ decide (0 ≤ i) = !nodessT l) ∧ Below w.heap.size w w' := by
  have hll := hA.2.1
  have HA := Lib.hid hA
  have HG := Lib.hid hG
  have HT := Lib.hid hT
  have HB := Lib.hid hB
  have HN := Lib.hid (namessT_mem hn)
  have IH := Lib.hid ih
  clear hA hG hT hB hn ih
  go_enter Tryz.func112, Tryz.ntmps112
  go_wp2_with fail
  go_loopg [8] l.length (fun gk v8 wr => ∃ i : Nat, v8 = .int .i64 i ∧ i ≤ l.length ∧ gk = l.length - i ∧ Aside0 (nodessT l = nodessT (l.drop i)) ∧ Aside0 (Below w.heap.size w wr))
  case atStart => exact ⟨0, rfl, by omega, by omega, ⟨rfl⟩, ⟨Below.refl _ _⟩⟩
  case round =>
    obtain ⟨i, rfl, hi, hgk, HS, HW⟩ := hrel
    by_cases hlt : i < l.length
    · have hdd : decide ((i : Int) < (l.length : Int)) = true := by rw [decide_eq_true_eq]; omega
      have hd0 : decide (0 ≤ (i : Int)) = true := by rw [decide_eq_true_eq]; omega
      obtain ⟨ad, A3, c3, rfl, a0, a1, a2, a3, ha⟩ := TmR.at (Kd.C_below HA.out HW.out) i hlt
      have hs : nodessT l = (nodesT l[i] && nodessT (l.drop (i + 1))) := by
        rw [HS.out, List.drop_eq_getElem_cons hlt, nodessT]
      have K := Lib.hid (IH.out l[i] (List.getElem_mem hlt) _ B wr ha (HN.out _ (List.getElem_mem hlt)) (HG.out.below HW.out) (HT.out.below HW.out) (pw_cell_below HW.out HB.out))
      have HSS := Lib.hid hs
      clear hs HS ha
      generalize l[i] = x at *
      cases hb : nodesT x with
      | false =>
        rw [hb] at HSS K
        clear hb
        go_wp2_with fail
        refine K.out.mono ?_
        rintro e w2 ⟨rfl, hb⟩
        have HW3 := Lib.hid (HW.out.trans (hb.mono HW.out.size))
        clear hb
        go_wp2_with fail
        go_ret
        exact ⟨⟨_, rfl, by rw [HSS.out]; simp⟩, HW3.out⟩
      | true =>
        rw [hb] at HSS K
        clear hb
        go_wp2_with fail
        refine K.out.mono ?_
        rintro e w2 ⟨rfl, hb⟩
        have HW3 := Aside0.mk (HW.out.trans (hb.mono HW.out.size))
        clear hb
        go_wp2_with fail
        go_roundg (l.length - (i + 1))
        case measure => omega
        case rel => exact ⟨i + 1, by go_num, by omega, rfl, ⟨by rw [HSS.out]; rfl⟩, HW3⟩
    · have hdd : decide ((i : Int) < (l.length : Int)) = false := by rw [decide_eq_false_iff_not]; omega
      go_wp2_with fail
      go_ret
      refine ⟨⟨_, rfl, ?_⟩, HW.out⟩
      rw [HS.out, List.drop_of_length_le (by omega)]; rfl
set_option maxRecDepth 100000 in
set_option maxHeartbeats 4000000 in
theorem containsWrong (l : List Tm) (ih : ∀ t ∈ l, WrongH t) (hn : namessT l = true) (A : Option Addr) (c B : Nat) (w : World) (hA : Kd.C k26 w A l.length l) (hG : GL w) (hT : GT w) (hB : w.cell? ⟨B, 0, none⟩ = some (wrongV B)) :
    Calls Tryz.prog 68 #[.slice A l.length c, wrongV B] w fun e w' => e = .returned (.bool (!nodessT l)) ∧ Below w.heap.size w w' := by
  have K := Lib.hid (indexWrong l ih hn A c B w hA hG hT hB)
  clear hA hG hT hB hn ih
  go_enter Tryz.func68, Tryz.ntmps68
  go_wp2_with fail
  refine K.out.mono ?_
  rintro e w2 ⟨⟨i, rfl, hi⟩, hb⟩
  have HB := Lib.hid hb
  clear hb
  go_wp2_with fail
  go_ret
  exact ⟨rfl, HB.out⟩
set_option maxRecDepth 100000 in
set_option maxHeartbeats 4000000 in
theorem wrongC (t : Tm) : WrongH t := by
  induction t using Tm.ind with
  | h k nm n l ih =>
    rintro vt B w ⟨A, c, rfl, hl, hA⟩ hn hG hT hB
    simp only at hl hA
    rw [namesT, Bool.and_eq_true, decide_eq_true_eq] at hn
    have hb0 := below_alloc (Below.refl w.heap.size w) (.cells #[.int .i64 k, .string nm, .int .i64 n, .slice A l.length c] 26)
    have hG := hG.below hb0
    have hT := hT.below hb0
    have hA := Kd.C_below hA hb0
    have hB := pw_cell_below hb0 hB
    have B1 := Own.new w #[.int .i64 k, .string nm, .int .i64 n, .slice A l.length c] 26
    have b0 := B1.cell 0
    have b1 := B1.cell 1
    have b2 := B1.cell 2
    have b3 := B1.cell 3
    have HB := Lib.hid hb0
    by_cases hg : 1 ≤ k ∧ k < 14 ∧ (l.length : Int) = kidsOf k ∧ 0 ≤ n ∧ n < 2147483648 ∧ (k = 1 ∨ n = 0)
    · have K := Lib.hid (node_good k nm n A c l _ hG hT hA hl hn.1 hg)
      have HKK := Lib.hid (fun w2 (hb : Below (w.alloc (.cells #[.int .i64 k, .string nm, .int .i64 n, .slice A l.length c] 26)).heap.size (w.alloc (.cells #[.int .i64 k, .string nm, .int .i64 n, .slice A l.length c] 26)) w2) => containsWrong l ih hn.2 A c B w2 (Kd.C_below hA hb) (hG.below hb) (hT.below hb) (pw_cell_below hb hB))
      have HBC := Lib.hid hB
      have HR := Lib.hid (show nodesT ⟨k, nm, n, l⟩ = (nodeB k nm n l.length && nodessT l) by rw [nodesT])
      rw [HR.out]
      clear hG hT hA hl hn hg ih hb0 hB
      cases hnb : nodeB k nm n l.length with
      | false =>
        rw [hnb] at K
        clear hnb
        go_enter Tryz.func66, Tryz.ntmps66
        go_wp2_with fail
        refine K.out.mono ?_
        rintro e w2 ⟨rfl, hb⟩
        have HB2 := Lib.hid (HB.out.trans (hb.mono HB.out.size))
        clear hb
        go_wp2_with fail
        go_ret
        exact ⟨rfl, HB2.out⟩
      | true =>
        rw [hnb] at K
        clear hnb
        go_enter Tryz.func66, Tryz.ntmps66
        go_wp2_with fail
        refine K.out.mono ?_
        rintro e w2 ⟨rfl, hb⟩
        have HB2 := Lib.hid (HB.out.trans (hb.mono HB.out.size))
        have K2 := Lib.hid (HKK.out w2 hb)
        have B1 : Own _ _ _ _ := blk_below B1 hb
        have b3 := B1.cell 3
        have hB := pw_cell_below hb HBC.out
        clear hb
        go_wp2_with fail
        refine K2.out.mono ?_
        rintro e w3 ⟨rfl, hb⟩
        have HB3 := Lib.hid (HB2.out.trans (hb.mono HB2.out.size))
        clear hb
        go_wp2_with fail
        go_ret
        exact ⟨rfl, HB3.out⟩
    · have K := Lib.hid (node_bad k nm n A c l _ hT hg)
      have HR := Lib.hid (show nodesT ⟨k, nm, n, l⟩ = false by rw [nodesT, node_false hg]; rfl)
      rw [HR.out]
      clear hG hT hA hl hn hg ih hb0 hB
      go_enter Tryz.func66, Tryz.ntmps66
      go_wp2_with fail
      refine K.out.mono ?_
      rintro e w2 ⟨rfl, hb⟩
      have HB2 := Lib.hid (HB.out.trans (hb.mono HB.out.size))
      clear hb
      go_wp2_with fail
      go_ret
      exact ⟨rfl, HB2.out⟩
set_option maxRecDepth 100000 in
set_option maxHeartbeats 4000000 in
theorem store_func (w : World) (a : Addr) (f : Fn) (ts cs : Array Value) : Sem.run Tryz.prog (store a (.func f ts cs)) w = stored Tryz.prog w a (.func f ts cs) .plain := run_store Tryz.prog w a _ _ rfl
theorem termRightC (t : Tm) (vt : Value) (w : World) (h : TmR w t vt) (hn : namesT t = true) (hs : sizeT t ≤ 9223372036854775807) (hG : GL w) (hT : GT w) :
    Calls Tryz.prog 30 #[vt] w fun e w' => e = .returned (.bool (rightTm t)) ∧ Below w.heap.size w w' := by
  obtain ⟨A, c, rfl, hl, hA⟩ := h
  obtain ⟨w1, hw1⟩ : ∃ w1, w1 = w.alloc (.cells #[.int .i64 t.f0, .string t.f1, .int .i64 t.f2, .slice A t.f3.length c] 26) := ⟨_, rfl⟩
  obtain ⟨w2, hw2⟩ : ∃ w2, w2 = w1.alloc (.cells #[wrongV (w.heap.size + 1)] 49) := ⟨_, rfl⟩
  have hs1 : w1.heap.size = w.heap.size + 1 := by rw [hw1]; simp
  have X := Own.new w1 #[.nilFunc] 49
  rw [hs1] at X
  have x0 := X.cell 0
  have xz := fun i => X.fz i
  have Y : Own w2 (w.heap.size + 1) #[wrongV (w.heap.size + 1)] 49 := by rw [hw2, ← hs1]; exact Own.new _ _ _
  have B1 : Own w1 w.heap.size #[.int .i64 t.f0, .string t.f1, .int .i64 t.f2, .slice A t.f3.length c] 26 := by rw [hw1]; exact Own.new _ _ _
  have hb2 : Below w1.heap.size w1 w2 := by rw [hw2]; exact below_alloc (Below.refl _ _) _
  have hb1 : Below w.heap.size w w2 := (by rw [hw1]; exact below_alloc (Below.refl _ _) _ : Below w.heap.size w w1).trans (hb2.mono (by omega))
  have B2 : Own _ _ _ _ := blk_below B1 hb2
  have b0 := B2.cell 0
  have b1 := B2.cell 1
  have b2 := B2.cell 2
  have b3 := B2.cell 3
  have y0 := Y.cell 0
  have HA := Lib.hid (Kd.C_below hA hb1)
  have HG := Lib.hid (hG.below hb1)
  have HT := Lib.hid (hT.below hb1)
  have HB := Lib.hid hb1
  have HY := Lib.hid Y
  have HB2 := Lib.hid B2
  have KD := Lib.hid (term_Depth.calls (2 * sizeT t) t.f0 t.f1 t.f2 A c t.f3 (depthT t) w2 HA.out hl (depth_eq t hs _ (Nat.le_refl _)))
  have KS := Lib.hid (fun w3 (hb : Below w2.heap.size w2 w3) => term_Size.calls (2 * sizeT t) t.f0 t.f1 t.f2 A c t.f3 (sizeT t) w3 (Kd.C_below HA.out hb) hl (size_eq t hs _ (Nat.le_refl _)))
  have KW := Lib.hid (fun w3 (hb : Below w2.heap.size w2 w3) => wrongC t _ (w.heap.size + 1) w3 ⟨A, c, rfl, hl, Kd.C_below HA.out hb⟩ hn (HG.out.below hb) (HT.out.below hb) ((show Own _ _ _ _ from blk_below HY.out hb).cell 0))
  have HR := Lib.hid (show rightTm t = (decide (depthT t ≤ 200) && decide (sizeT t ≤ 10000) && nodesT t) from rfl)
  rw [HR.out]
  clear hA hG hT hb1 hb2 hn hs B1 X Y B2
  subst hw1
  have hsf := store_func
  by_cases c1 : depthT t ≤ 200
  · have d1 : decide ((depthT t : Int) ≤ 200) = true := by rw [decide_eq_true_eq]; omega
    have D1 := Lib.hid (decide_eq_true c1)
    clear c1
    by_cases c2 : sizeT t ≤ 10000
    · have d2 : decide ((sizeT t : Int) ≤ 10000) = true := by rw [decide_eq_true_eq]; omega
      have D2 := Lib.hid (decide_eq_true c2)
      clear c2
      go_enter Tryz.func30, Tryz.ntmps30
      go_wp2_with fail
      rw [← hw2]
      clear hw2
      refine KD.out.mono ?_
      rintro e w3 ⟨rfl, hb⟩
      have B2 : Own _ _ _ _ := blk_below HB2.out hb
      have b0 := B2.cell 0
      have b1 := B2.cell 1
      have b2 := B2.cell 2
      have b3 := B2.cell 3
      have KS := Lib.hid (KS.out w3 hb)
      have HW := Lib.hid hb
      clear hb B2
      go_wp2_with fail
      refine KS.out.mono ?_
      rintro e w4 ⟨rfl, hb⟩
      have hb := HW.out.trans (hb.mono HW.out.size)
      have B2 : Own _ _ _ _ := blk_below HB2.out hb
      have b0 := B2.cell 0
      have b1 := B2.cell 1
      have b2 := B2.cell 2
      have b3 := B2.cell 3
      have Y2 : Own _ _ _ _ := blk_below HY.out hb
      have y0 := Y2.cell 0
      have KW := Lib.hid (KW.out w4 hb)
      have HW := Lib.hid (HB.out.trans (hb.mono HB.out.size))
      clear hb B2 Y2
      go_wp2_with fail
      refine KW.out.mono ?_
      rintro e w5 ⟨rfl, hb⟩
      have HW := Lib.hid (HW.out.trans (hb.mono HW.out.size))
      clear hb
      go_wp2_with fail
      go_ret
      exact ⟨by rw [D1.out, D2.out]; simp, HW.out⟩
    · have d2 : decide ((sizeT t : Int) ≤ 10000) = false := by rw [decide_eq_false_iff_not]; omega
      have D2 := Lib.hid (decide_eq_false c2)
      clear c2
      go_enter Tryz.func30, Tryz.ntmps30
      go_wp2_with fail
      rw [← hw2]
      clear hw2
      refine KD.out.mono ?_
      rintro e w3 ⟨rfl, hb⟩
      have B2 : Own _ _ _ _ := blk_below HB2.out hb
      have b0 := B2.cell 0
      have b1 := B2.cell 1
      have b2 := B2.cell 2
      have b3 := B2.cell 3
      have KS := Lib.hid (KS.out w3 hb)
      have HW := Lib.hid (HB.out.trans (hb.mono HB.out.size))
      clear hb B2
      go_wp2_with fail
      refine KS.out.mono ?_
      rintro e w4 ⟨rfl, hb⟩
      have HW := Lib.hid (HW.out.trans (hb.mono HW.out.size))
      clear hb
      go_wp2_with fail
      go_ret
      exact ⟨by rw [D1.out, D2.out]; rfl, HW.out⟩
  · have d1 : decide ((depthT t : Int) ≤ 200) = false := by rw [decide_eq_false_iff_not]; omega
    have D1 := Lib.hid (decide_eq_false c1)
    clear c1
    go_enter Tryz.func30, Tryz.ntmps30
    go_wp2_with fail
    rw [← hw2]
    clear hw2
    refine KD.out.mono ?_
    rintro e w3 ⟨rfl, hb⟩
    have HW := Lib.hid (HB.out.trans (hb.mono HB.out.size))
    clear hb
    go_wp2_with fail
    go_ret
    exact ⟨by rw [D1.out]; rfl, HW.out⟩
end Go.Proofs.YtchekgnacodolaaGreatDoor.X
end
section
namespace Go.Proofs.YtchekgnacodolaaGreatDoor.X
open Go.RowKit Go.Proofs.YtchekgnacodolaaGreatDoorW.PrintWords Go.Proofs.YtchekgnacodolaaGreatDoorW.PrintLast Go.Proofs.YtchekgnacodolaaGreatDoorW.PrintMore
set_option linter.unusedSimpArgs false
set_option linter.unusedVariables false
theorem as_word_word (x : Value) (w : World) : (Instr.typeAssert (.iface 167 x) 222 167 true).run Tryz.prog w = .ok (.tuple #[x, .bool true]) w := by kernel_rfl
theorem as_mark_word (x : Value) (w : World) : (Instr.typeAssert (.iface 168 x) 222 167 true).run Tryz.prog w = .ok (.tuple #[.string ⟨#[]⟩, .bool false]) w := by kernel_rfl
theorem as_mark_mark (x : Value) (w : World) : (Instr.typeAssert (.iface 168 x) 222 168 true).run Tryz.prog w = .ok (.tuple #[x, .bool true]) w := by kernel_rfl
theorem as_name_word (x : Value) (w : World) : (Instr.typeAssert (.iface 165 x) 222 167 true).run Tryz.prog w = .ok (.tuple #[.string ⟨#[]⟩, .bool false]) w := by kernel_rfl
theorem as_name_mark (x : Value) (w : World) : (Instr.typeAssert (.iface 165 x) 222 168 true).run Tryz.prog w = .ok (.tuple #[.string ⟨#[]⟩, .bool false]) w := by kernel_rfl
theorem as_name_name (x : Value) (w : World) : (Instr.typeAssert (.iface 165 x) 222 165 true).run Tryz.prog w = .ok (.tuple #[x, .bool true]) w := by kernel_rfl
theorem as_kid_word (x : Value) (w : World) : (Instr.typeAssert (.iface 163 x) 222 167 true).run Tryz.prog w = .ok (.tuple #[.string ⟨#[]⟩, .bool false]) w := by kernel_rfl
theorem as_kid_mark (x : Value) (w : World) : (Instr.typeAssert (.iface 163 x) 222 168 true).run Tryz.prog w = .ok (.tuple #[.string ⟨#[]⟩, .bool false]) w := by kernel_rfl
theorem as_kid_name (x : Value) (w : World) : (Instr.typeAssert (.iface 163 x) 222 165 true).run Tryz.prog w = .ok (.tuple #[.string ⟨#[]⟩, .bool false]) w := by kernel_rfl
theorem as_kid_kid (x : Value) (w : World) : (Instr.typeAssert (.iface 163 x) 222 163 true).run Tryz.prog w = .ok (.tuple #[x, .bool true]) w := by kernel_rfl
inductive Pt where
  | word (b : ByteArray)
  | mark (b : ByteArray)
  | name (b : ByteArray)
  | kid (t : Tm)
def Pt.toks : Pt → List TokT
  | .word b => [keyTok b]
  | .mark b => [markTok b]
  | .name b => [nameTok b]
  | .kid t => inT t
def PtV (w : World) : Pt → Value → Prop
  | .word b, v => v = .iface 167 (.string b)
  | .mark b, v => v = .iface 168 (.string b)
  | .name b, v => v = .iface 165 (.string b)
  | .kid t, v => ∃ u, v = .iface 163 u ∧ TmR w t u
theorem PtV.below {w w1 : World} {p : Pt} {v : Value} (h : PtV w p v) (hb : Below w.heap.size w w1) : PtV w1 p v := by
  cases p with
  | kid t => obtain ⟨u, e, hu⟩ := h; exact ⟨u, e, hu.below hb⟩
  | _ => exact h
inductive PtsV (w : World) : List Pt → List Value → Prop where
  | nil : PtsV w [] []
  | cons {p v ps vs} : PtV w p v → PtsV w ps vs → PtsV w (p :: ps) (v :: vs)
theorem PtsV.len {w : World} {ps : List Pt} {vs : List Value} (h : PtsV w ps vs) : vs.length = ps.length := by
  induction h with
  | nil => rfl
  | cons _ _ ih => simp [ih]
theorem PtsV.at {w : World} {ps : List Pt} {vs : List Value} (h : PtsV w ps vs) : ∀ (i : Nat) (p : Pt), ps[i]? = some p → ∃ v, vs[i]? = some v ∧ PtV w p v := by
  induction h with
  | nil => intro i p hi; simp at hi
  | cons h0 _ ih =>
    intro i p hi
    cases i with
    | zero => injection hi with hi; subst hi; exact ⟨_, rfl, h0⟩
    | succ i => exact ih i p hi
abbrev ptsT (ps : List Pt) : List TokT := ps.flatMap Pt.toks
theorem ptsT_take (ps : List Pt) (i : Nat) (h : i < ps.length) : ptsT (ps.take (i + 1)) = ptsT (ps.take i) ++ (ps[i]).toks := by
  unfold ptsT
  rw [List.take_add_one, List.getElem?_eq_getElem h, List.flatMap_append]; simp
theorem ptsT_len (ps : List Pt) (i : Nat) : (ptsT (ps.take i)).length ≤ (ptsT ps).length := by
  unfold ptsT
  conv => rhs; rw [← List.take_append_drop i ps, List.flatMap_append, List.length_append]
  omega
def ToksOut (w : World) (l : List TokT) (e : Ending) (w' : World) : Prop := ∃ v, e = .returned v ∧ Kd.R k106 106 w' w.heap.size (fun _ => True) v l ∧ Below w.heap.size w w'
def WithinH (t : Tm) : Prop := ∀ (vt : Value) (w : World), TmR w t vt → GL w → Calls Tryz.prog 158 #[vt] w (ToksOut w (inT t))
set_option maxRecDepth 100000 in
set_option maxHeartbeats 8000000 in
theorem laidC (ps : List Pt) (vs : List Value) (hk : ∀ t, Pt.kid t ∈ ps → WithinH t) (hlen : (ptsT ps).length ≤ 1000000) (b : Nat) (T : TypeId) (c : Nat) (w : World) (hp : ps.length ≤ 1000) (hV : PtsV w ps vs) (hb : Own w b vs.toArray T) (hG : GL w) :
    Calls Tryz.prog 107 #[.slice (some ⟨b, 0, none⟩) ps.length c] w (ToksOut w (ptsT ps)) := by
  have HK := Lib.hid hk
  have HL := Lib.hid hlen
  have HP := Lib.hid hp
  have HV := Lib.hid hV
  have HO := Lib.hid hb
  have HG := Lib.hid hG
  have hll : ps.length ≤ 9223372036854775807 := by omega
  clear hk hlen hV hb hG hp
  go_enter Tryz.func107, Tryz.ntmps107
  go_wp2_with fail
  go_loopg [3, 12] ps.length (fun gk v3 v12 wr => ∃ i : Nat, v12 = .int .i64 i ∧ i ≤ ps.length ∧ gk = ps.length - i ∧ Aside0 (Kd.R k106 106 wr w.heap.size (fun _ => True) v3 (ptsT (ps.take i))) ∧ Aside0 (Below w.heap.size w wr))
  case atStart => exact ⟨0, rfl, by omega, by omega, ⟨Kd.R_nil _ _ _ _ _⟩, ⟨Below.refl _ _⟩⟩
  case round =>
    obtain ⟨i, rfl, hi, hgk, HS, HW⟩ := hrel
    by_cases hlt : i < ps.length
    · have hdd : decide ((i : Int) < (ps.length : Int)) = true := by rw [decide_eq_true_eq]; omega
      have hd0 : decide (0 ≤ (i : Int)) = true := by rw [decide_eq_true_eq]; omega
      obtain ⟨v, hv, hpv⟩ := HV.out.at i ps[i] (List.getElem?_eq_getElem hlt)
      have hpv := hpv.below HW.out
      have hc : wr.cell? ⟨b, i, none⟩ = some v := ((show Own _ _ _ _ from blk_below HO.out HW.out).cell i).trans (by simpa using hv)
      have HT := Lib.hid (ptsT_take ps i hlt)
      have HN := Lib.hid (show (ptsT (ps.take i)).length + (ps[i]).toks.length ≤ 1000000 by rw [← List.length_append, ← HT.out]; exact Nat.le_trans (ptsT_len ps (i + 1)) HL.out)
      have HKi := Lib.hid (fun t (h : ps[i] = Pt.kid t) => HK.out t (h ▸ List.getElem_mem hlt))
      generalize ps[i] = p at *
      clear hv
      generalize ptsT (ps.take i) = acc at *
      cases p with
      | word s =>
        cases hpv
        have ta_word := fun w => as_word_word (.string s) w
        go_wp2_with ((with_reducible refine gate_builtin (b := .append) (xs := #[.tmp 20, .tmp 23]) rfl ?_); at_builtin; refine Kd.R_append k106 (w0 := w) w.heap.size rfl (.tmp 20) (.tmp 23) 22 106 (.agg #[(.int .i64 0), (.string ⟨#[]⟩), (.int .i64 0)]) 32 rfl Tryz.underlying22 info106 rfl (by decide) (by omega) u3 acc (keyTok s) [.int .i64 3, .string s, .int .i64 0] (fun _ => True) (fun _ => False) rfl (by first | (go_simp; done) | (go_simp; rfl)) ?aP (fun _ hk => hk.elim) ?aF ?aO ?aB ?aS ?aL ?_; (case aP => exact k106_mkM _ _ _ (keyTok s)); (case aF => exact fun _ _ => trivial); (case aO => exact HS.out); (case aB => exact HW.out); (case aS => exact HW.out.size); (case aL => have := HN.out; omega); intro v1 w1 ho hb hg hat; have HO1 := Aside0.mk ho; have HB1 := Aside0.mk hb; clear ho hb hg hat HS HW)
        go_roundg (ps.length - (i + 1))
        case measure => omega
        case rel => exact ⟨i + 1, by go_num, by omega, rfl, ⟨by rw [HT.out]; exact HO1.out⟩, HB1⟩
      | mark s =>
        cases hpv
        have ta_word := fun w => as_mark_word (.string s) w
        have ta_mark := fun w => as_mark_mark (.string s) w
        go_wp2_with ((with_reducible refine gate_builtin (b := .append) (xs := #[.tmp 28, .tmp 31]) rfl ?_); at_builtin; refine Kd.R_append k106 (w0 := w) w.heap.size rfl (.tmp 28) (.tmp 31) 22 106 (.agg #[(.int .i64 0), (.string ⟨#[]⟩), (.int .i64 0)]) 32 rfl Tryz.underlying22 info106 rfl (by decide) (by omega) u3 acc (markTok s) [.int .i64 4, .string s, .int .i64 0] (fun _ => True) (fun _ => False) rfl (by first | (go_simp; done) | (go_simp; rfl)) ?aP (fun _ hk => hk.elim) ?aF ?aO ?aB ?aS ?aL ?_; (case aP => exact k106_mkM _ _ _ (markTok s)); (case aF => exact fun _ _ => trivial); (case aO => exact HS.out); (case aB => exact HW.out); (case aS => exact HW.out.size); (case aL => have := HN.out; omega); intro v1 w1 ho hb hg hat; have HO1 := Aside0.mk ho; have HB1 := Aside0.mk hb; clear ho hb hg hat HS HW)
        go_roundg (ps.length - (i + 1))
        case measure => omega
        case rel => exact ⟨i + 1, by go_num, by omega, rfl, ⟨by rw [HT.out]; exact HO1.out⟩, HB1⟩
      | name s =>
        cases hpv
        have ta_word := fun w => as_name_word (.string s) w
        have ta_mark := fun w => as_name_mark (.string s) w
        have ta_name := fun w => as_name_name (.string s) w
        go_wp2_with ((with_reducible refine gate_builtin (b := .append) (xs := #[.tmp 36, .tmp 39]) rfl ?_); at_builtin; refine Kd.R_append k106 (w0 := w) w.heap.size rfl (.tmp 36) (.tmp 39) 22 106 (.agg #[(.int .i64 0), (.string ⟨#[]⟩), (.int .i64 0)]) 32 rfl Tryz.underlying22 info106 rfl (by decide) (by omega) u3 acc (nameTok s) [.int .i64 1, .string s, .int .i64 0] (fun _ => True) (fun _ => False) rfl (by first | (go_simp; done) | (go_simp; rfl)) ?aP (fun _ hk => hk.elim) ?aF ?aO ?aB ?aS ?aL ?_; (case aP => exact k106_mkM _ _ _ (nameTok s)); (case aF => exact fun _ _ => trivial); (case aO => exact HS.out); (case aB => exact HW.out); (case aS => exact HW.out.size); (case aL => have := HN.out; omega); intro v1 w1 ho hb hg hat; have HO1 := Aside0.mk ho; have HB1 := Aside0.mk hb; clear ho hb hg hat HS HW)
        go_roundg (ps.length - (i + 1))
        case measure => omega
        case rel => exact ⟨i + 1, by go_num, by omega, rfl, ⟨by rw [HT.out]; exact HO1.out⟩, HB1⟩
      | kid t =>
        obtain ⟨u, rfl, A3, c3, rfl, hl3, hC3⟩ := hpv
        have ta_word := fun x w => as_kid_word x w
        have ta_mark := fun x w => as_kid_mark x w
        have ta_name := fun x w => as_kid_name x w
        have ta_kid := fun x w => as_kid_kid x w
        have hA := below_alloc (Below.refl wr.heap.size wr) (.cells #[.int .i64 t.f0, .string t.f1, .int .i64 t.f2, .slice A3 t.f3.length c3] 163)
        have KK := Lib.hid (HKi.out t rfl _ (wr.alloc (.cells #[.int .i64 t.f0, .string t.f1, .int .i64 t.f2, .slice A3 t.f3.length c3] 163)) ⟨A3, c3, rfl, hl3, Kd.C_below hC3 hA⟩ ((HG.out.below HW.out).below hA))
        have HA := Lib.hid hA
        clear hA hpv hl3 hC3 HKi
        go_wp2_with fail
        refine KK.out.mono ?_
        rintro e w2 ⟨v2, rfl, ho2, hb2⟩
        obtain ⟨A4, c4, rfl⟩ := Kd.R_slice ho2
        have hbb := HA.out.trans (hb2.mono HA.out.size)
        have HC2 := Aside0.mk (Kd.R_reads' ho2).2.2
        have HS2 := Aside0.mk (Kd.R_below HS.out hbb)
        have HW2 := Aside0.mk (HW.out.trans (hbb.mono HW.out.size))
        clear hbb hb2 ho2 HS HW HA KK
        go_wp2_with ((with_reducible refine gate_builtin (b := .append) (xs := #[.tmp 44, .tmp 47]) rfl ?_); at_builtin; refine Kd.R_append_rows k106 (w0 := w) w.heap.size rfl (.tmp 44) (.tmp 47) 22 106 (.agg #[(.int .i64 0), (.string ⟨#[]⟩), (.int .i64 0)]) 32 rfl Tryz.underlying22 info106 rfl (by decide) (by omega) u3 acc (inT t) _ _ _ (fun _ => True) (fun _ => False) rfl rfl ?aO ?aR (fun _ _ h => h) (fun _ h => h.elim) ?aF ?aB ?aS ?aL ?_; (case aO => exact HS2.out); (case aR => exact HC2.out); (case aF => exact fun _ _ => trivial); (case aB => exact HW2.out); (case aS => exact HW2.out.size); (case aL => have h := HN.out; simp only [Pt.toks] at h; omega); intro v1 w1 ho hb hg hat; have HO1 := Aside0.mk ho; have HB1 := Aside0.mk hb; clear ho hb hg hat HS2 HW2)
        go_roundg (ps.length - (i + 1))
        case measure => omega
        case rel => exact ⟨i + 1, by go_num, by omega, rfl, ⟨by rw [HT.out]; exact HO1.out⟩, HB1⟩
    · have hdd : decide ((i : Int) < (ps.length : Int)) = false := by rw [decide_eq_false_iff_not]; omega
      go_wp2_with fail
      go_ret
      refine ⟨_, rfl, ?_, HW.out⟩
      have := HS.out
      rwa [List.take_of_length_le (by omega)] at this
end Go.Proofs.YtchekgnacodolaaGreatDoor.X
end
section
namespace Go.Proofs.YtchekgnacodolaaGreatDoor.X
open Go.RowKit Go.Proofs.YtchekgnacodolaaGreatDoorW.PrintWords Go.Proofs.YtchekgnacodolaaGreatDoorW.PrintLast Go.Proofs.YtchekgnacodolaaGreatDoorW.PrintMore
set_option linter.unusedSimpArgs false
set_option linter.unusedVariables false
def ToksH (t : Tm) : Prop := ∀ (vt : Value) (w : World), TmR w t vt → GL w → Calls Tryz.prog 65 #[vt] w (ToksOut w (toksT t))
theorem markC (m : ByteArray) (b : Nat) (T : TypeId) (w : World) (hO : Own w b #[.iface 168 (.string m)] T) (hG : GL w) :
    Calls Tryz.prog 107 #[.slice (some ⟨b, 0, none⟩) 1 1] w (ToksOut w [markTok m]) :=
  laidC [.mark m] [.iface 168 (.string m)] (fun t h => by simp at h) (by show 1 ≤ _; omega) b T 1 w (by show 1 ≤ _; omega) (.cons rfl .nil) hO hG
abbrev zTok : Value := .agg #[(.int .i64 0), (.string ⟨#[]⟩), (.int .i64 0)]
theorem own_grown {b : Nat} {W w1 : World} {cs : Array Value} {v : Value} {l : List TokT} {base : Nat} (h : Own W b cs 222) (hr : Kd.R k106 106 W base (fun _ => True) v l) (hg : W.grownBy w1 v.ownBlock) : Own w1 b cs 222 :=
  blk_grown h hg (Kd.R_ne hr h (by decide))
set_option maxRecDepth 100000 in
set_option maxHeartbeats 8000000 in
theorem withinC (t : Tm) (hT : ToksH t) (hlen : (toksT t).length ≤ 900000) : WithinH t := by
  rintro vt w ⟨A, c, rfl, hl, hA⟩ hG
  obtain ⟨W0, hW0⟩ : ∃ W0, W0 = w.alloc (.cells #[.int .i64 t.f0, .string t.f1, .int .i64 t.f2, .slice A t.f3.length c] 26) := ⟨_, rfl⟩
  have hb0 : Below w.heap.size w W0 := by rw [hW0]; exact below_alloc (Below.refl _ _) _
  have B1 : Own W0 w.heap.size #[.int .i64 t.f0, .string t.f1, .int .i64 t.f2, .slice A t.f3.length c] 26 := by rw [hW0]; exact Own.new _ _ _
  have b0 := B1.cell 0
  have b1 := B1.cell 1
  have b2 := B1.cell 2
  have b3 := B1.cell 3
  have HG := Lib.hid (hG.below hb0)
  have HA := Lib.hid (Kd.C_below hA hb0)
  have HB := Lib.hid hb0
  have HO := Lib.hid B1
  have HL := Lib.hid hlen
  have KT := Lib.hid (fun W (hb : Below W0.heap.size W0 W) => hT _ W ⟨A, c, rfl, hl, Kd.C_below HA.out hb⟩ (HG.out.below hb))
  clear hG hA hb0 B1 hT hlen
  by_cases hk : t.f0 = 1 ∨ t.f0 = 2
  · have KT := Lib.hid (KT.out W0 (Below.refl _ _))
    have HE := Lib.hid (show inT t = toksT t by unfold inT withinT; rw [if_pos hk])
    rw [HE.out]
    have d1 : (t.f0 == 1) = true ∨ ((t.f0 == 1) = false ∧ (t.f0 == 2) = true) := by
      by_cases h1 : t.f0 = 1
      · exact .inl (by simpa using h1)
      · exact .inr ⟨by simpa using h1, by rcases hk with h | h; exact absurd h h1; simpa using h⟩
    clear hk
    rcases d1 with d1 | ⟨d1, d2⟩
    all_goals
      go_enter Tryz.func158, Tryz.ntmps158
      go_wp2_with fail
      rw [← hW0]
      refine KT.out.mono ?_
      rintro e w2 ⟨v2, rfl, ho, hb⟩
      have HO2 := Lib.hid (Kd.R_lower ho HB.out.size)
      have HB2 := Lib.hid (HB.out.trans (hb.mono HB.out.size))
      clear ho hb
      go_wp2_with fail
      go_ret
      exact ⟨_, rfl, HO2.out, HB2.out⟩
  · have HE := Lib.hid (show inT t = [markTok mOpen] ++ toksT t ++ [markTok mClose] by unfold inT withinT; rw [if_neg hk]; rfl)
    rw [HE.out]
    have d1 : (t.f0 == 1) = false := by
      have : ¬ t.f0 = 1 := fun h => hk (.inl h)
      simpa using this
    have d2 : (t.f0 == 2) = false := by
      have : ¬ t.f0 = 2 := fun h => hk (.inr h)
      simpa using this
    clear hk
    go_enter Tryz.func158, Tryz.ntmps158
    go_wp2_with fail
    rw [← hW0]
    have hS : ∀ W, Below W0.heap.size W0 W → (fun w' => w'.cell? ⟨w.heap.size, 0, none⟩ = some (.int .i64 t.f0) ∧ w'.cell? ⟨w.heap.size, 1, none⟩ = some (.string t.f1) ∧ w'.cell? ⟨w.heap.size, 2, none⟩ = some (.int .i64 t.f2) ∧ w'.cell? ⟨w.heap.size, 3, none⟩ = some (.slice A t.f3.length c)) W := fun W hb => by
      have B2 : Own _ _ _ _ := blk_below HO.out hb
      exact ⟨B2.cell 0, B2.cell 1, B2.cell 2, B2.cell 3⟩
    refine start_ (n := 11) (S := fun w' => w'.cell? ⟨w.heap.size, 0, none⟩ = some (.int .i64 t.f0) ∧ w'.cell? ⟨w.heap.size, 1, none⟩ = some (.string t.f1) ∧ w'.cell? ⟨w.heap.size, 2, none⟩ = some (.int .i64 t.f2) ∧ w'.cell? ⟨w.heap.size, 3, none⟩ = some (.slice A t.f3.length c)) (ds := [10]) #[false, false, false, false, false, false, false, false, false, false, false] (by kernel_rfl) rfl rfl (hS _ (below_drew (Below.refl _ _))) (fun hHeld => ?_)
    have hD : Below W0.heap.size W0 W0.drew := below_drew (Below.refl _ _)
    generalize W0.drew = W1 at hD hHeld ⊢
    refine pure_ (i := 0) (N := some 13) (v := ?_) (a' := ?_) #[true, false, false, false, false, false, false, false, false, false, false] rfl rfl (by kernel_rfl) (fun _ _ _ h => h) (Or.inl ⟨by rfl, ?_⟩) ?_ ?_
    rotate_left
    · intro w'
      go_simp
      with_reducible rfl
    rotate_left
    · simp only [Act.put, List.setIfInBounds_toArray, List.set_cons_zero, List.set_cons_succ]
      rfl
    refine pure_ (i := 6) (N := some 19) (v := ?_) (a' := ?_) #[true, false, false, false, false, false, true, false, false, false, false] rfl rfl (by kernel_rfl) (fun _ _ _ h => h) (Or.inl ⟨by rfl, ?_⟩) ?_ ?_
    rotate_left
    · intro w'
      go_simp
      with_reducible rfl
    rotate_left
    · simp only [Act.put, List.setIfInBounds_toArray, List.set_cons_zero, List.set_cons_succ]
      rfl
    refine take_ (i := 3) (N := some 16) (v := ?_) (a' := ?_) #[true, false, false, true, false, false, true, false, false, false, false] rfl rfl (by kernel_rfl) (fun _ _ _ h => h) (Or.inl ⟨by rfl, ?_⟩) hHeld ?_ ?_
    rotate_left
    · rintro w' ⟨s0, s1, s2, s3⟩
      go_simp
      with_reducible rfl
    rotate_left
    · simp only [Act.put, List.setIfInBounds_toArray, List.set_cons_zero, List.set_cons_succ]
      rfl
    refine join_ 3 #[true, true, true, true, true, true, true, true, false, false, false] (fun s : Value × Value × Value × Value × Nat => [(14, s.1), (15, s.2.1), (17, s.2.2.1), (18, s.2.2.2.1), (20, .slice (some ⟨s.2.2.2.2, 0, none⟩) 1 1)]) (fun s W => Kd.R k106 106 W W0.heap.size (fun _ => True) s.2.2.2.1 ([markTok mOpen] ++ toksT t) ∧ Own W s.2.2.2.2 #[.iface 168 (.string mClose)] 222 ∧ Below W0.heap.size W0 W) ?_ (fun E5 => ?_)
    · rintro ⟨x14, x15, x17, v18, b7⟩ W ⟨f0, f1, hb⟩
      try dsimp only at f0 f1
      have hHeld := hS W hb
      refine norm_ (a' := ?_) ?_ ?_
      rotate_left
      · simp only [putAll, Act.put, List.setIfInBounds_toArray, List.set_cons_zero, List.set_cons_succ]
        rfl
      refine one_ (i := 8) (N := some 21) #[true, true, true, true, true, true, true, true, true, false, false] rfl rfl (by kernel_rfl) (by decide) (fun K hK => ?_)
      refine goes_ Tryz.func107 (by kernel_rfl) rfl #[.slice (some ⟨b7, 0, none⟩) 1 1] (by rfl) rfl rfl (by (try simp only [List.map_toArray, List.map_cons, List.map_nil]); first | done | rfl) ?_
      refine (markC mClose b7 _ W f1 (HG.out.below hb)).mono ?_
      rintro e w2 ⟨v2, rfl, ho2, hb2⟩
      have hb3 := hb.trans (hb2.mono hb.size)
      refine ⟨_, rfl, ?_⟩
      obtain ⟨A2, c2, rfl⟩ := Kd.R_slice ho2
      have ho3 := Kd.R_below f0 hb2
      have hc2 := (Kd.R_reads' ho2).2.2
      refine hK.out _ _ (hS _ hb3) (fun hHeld => ?_)
      clear hK K
      refine norm_ (a' := ?_) ?_ ?_
      rotate_left
      · show Act.put _ (some 21) _ = _
        simp only [Act.put, List.setIfInBounds_toArray, List.set_cons_zero, List.set_cons_succ]
        rfl
      refine one_ (i := 9) (N := some 22) #[true, true, true, true, true, true, true, true, true, true, false] rfl rfl (by kernel_rfl) (by decide) (fun K hK => ?_)
      refine Kd.R_append_rows_step k106 (w0 := W0) W0.heap.size (by rfl) (.tmp 18) (.tmp 21) 22 106 zTok 32 rfl Tryz.underlying22 info106 rfl (by decide) (by omega) _ ([markTok mOpen] ++ toksT t) [markTok mClose] _ _ _ (fun _ => True) (fun _ => False) rfl rfl ho3 hc2 (fun _ _ h => h) (fun _ h => h.elim) (fun _ _ => trivial) hb3 hb3.size ?_ ?_
      · have := HL.out; simp only [List.length_append, List.length_cons, List.length_nil]; omega
      intro v1 w1 ho1 hb1 hg hat
      refine hK.out _ _ (hS _ hb1) (fun hHeld => ?_)
      clear hK K
      refine norm_ (a' := ?_) ?_ ?_
      rotate_left
      · show Act.put _ (some 22) _ = _
        simp only [Act.put, List.setIfInBounds_toArray, List.set_cons_zero, List.set_cons_succ]
        rfl
      refine pure_ (i := 10) (N := some 2) (v := ?_) (a' := ?_) #[true, true, true, true, true, true, true, true, true, true, true] rfl rfl (by kernel_rfl) (fun _ _ _ h => h) (Or.inl ⟨by rfl, ?_⟩) ?_ ?_
      rotate_left
      · intro w'
        go_simp
        with_reducible rfl
      rotate_left
      · simp only [Act.put, List.setIfInBounds_toArray, List.set_cons_zero, List.set_cons_succ]
        rfl
      refine done_ (by kernel_rfl) ?_
      have HO1 := Lib.hid (Kd.R_lower ho1 HB.out.size)
      have HB1 := Lib.hid (HB.out.trans (hb1.mono HB.out.size))
      clear f0 f1 hb1 hg hat ho2 ho3 hc2 ho1 hb3 hb2 hS hb hD
      go_wp2_with fail
      go_ret
      exact ⟨_, rfl, HO1.out, HB1.out⟩
    refine join_ 4 #[true, true, true, true, true, false, true, true, false, false, false] (fun s : Value × Value × Value × Nat => [(14, s.1), (15, s.2.1), (17, s.2.2.1), (20, .slice (some ⟨s.2.2.2, 0, none⟩) 1 1)]) (fun s W => Kd.R k106 106 W W0.heap.size (fun _ => True) s.2.1 [markTok mOpen] ∧ Kd.R k106 106 W W0.heap.size (fun _ => True) s.2.2.1 (toksT t) ∧ Own W s.2.2.2 #[.iface 168 (.string mClose)] 222 ∧ Below W0.heap.size W0 W) ?_ (fun E4 => ?_)
    · rintro ⟨x14, v15, v17, b7⟩ W ⟨f0, f1, f2, hb⟩
      try dsimp only at f0 f1 f2
      have hHeld := hS W hb
      refine norm_ (a' := ?_) ?_ ?_
      rotate_left
      · simp only [putAll, Act.put, List.setIfInBounds_toArray, List.set_cons_zero, List.set_cons_succ]
        rfl
      refine one_ (i := 5) (N := some 18) #[true, true, true, true, true, true, true, true, false, false, false] rfl rfl (by kernel_rfl) (by decide) (fun K hK => ?_)
      obtain ⟨A17, c17, rfl⟩ := Kd.R_slice f1
      refine Kd.R_append_rows_step k106 (w0 := W0) W0.heap.size (by rfl) (.tmp 15) (.tmp 17) 22 106 zTok 32 rfl Tryz.underlying22 info106 rfl (by decide) (by omega) _ [markTok mOpen] (toksT t) _ _ _ (fun _ => True) (fun _ => False) rfl rfl f0 (Kd.R_reads' f1).2.2 (fun _ _ h => h) (fun _ h => h.elim) (fun _ _ => trivial) hb hb.size ?_ ?_
      · have := HL.out; simp only [List.length_cons, List.length_nil]; omega
      intro v1 w1 ho1 hb1 hg hat
      refine hK.out _ _ (hS _ hb1) (fun hHeld => ?_)
      clear hK K
      exact E5 (x14, v15, _, v1, b7) w1 ⟨ho1, own_grown f2 f0 hg, hb1⟩
    refine join_ 5 #[true, true, true, true, false, false, true, true, false, false, false] (fun s : Value × Value × Nat => [(14, s.1), (15, s.2.1), (20, .slice (some ⟨s.2.2, 0, none⟩) 1 1)]) (fun s W => Kd.R k106 106 W W0.heap.size (fun _ => True) s.2.1 [markTok mOpen] ∧ Own W s.2.2 #[.iface 168 (.string mClose)] 222 ∧ Below W0.heap.size W0 W) ?_ (fun E2 => ?_)
    · rintro ⟨x14, v15, b7⟩ W ⟨f0, f1, hb⟩
      try dsimp only at f0 f1
      have hHeld := hS W hb
      refine norm_ (a' := ?_) ?_ ?_
      rotate_left
      · simp only [putAll, Act.put, List.setIfInBounds_toArray, List.set_cons_zero, List.set_cons_succ]
        rfl
      refine one_ (i := 4) (N := some 17) #[true, true, true, true, true, false, true, true, false, false, false] rfl rfl (by kernel_rfl) (by decide) (fun K hK => ?_)
      refine goes_ Tryz.func65 (by kernel_rfl) rfl #[.agg #[.int .i64 t.f0, .string t.f1, .int .i64 t.f2, .slice A t.f3.length c]] (by rfl) rfl rfl (by (try simp only [List.map_toArray, List.map_cons, List.map_nil]); first | done | rfl) ?_
      refine (KT.out W hb).mono ?_
      rintro e w2 ⟨v2, rfl, ho2, hb2⟩
      have hb3 := hb.trans (hb2.mono hb.size)
      refine ⟨_, rfl, ?_⟩
      refine hK.out _ _ (hS _ hb3) (fun hHeld => ?_)
      clear hK K
      exact E4 (x14, v15, v2, b7) w2 ⟨Kd.R_below f0 hb2, Kd.R_lower ho2 hb.size, blk_below f1 hb2, hb3⟩
    refine join_ 6 #[true, true, false, true, false, false, true, true, false, false, false] (fun s : Nat × Nat => [(14, .slice (some ⟨s.1, 0, none⟩) 1 1), (20, .slice (some ⟨s.2, 0, none⟩) 1 1)]) (fun s W => Own W s.1 #[.iface 168 (.string mOpen)] 222 ∧ Own W s.2 #[.iface 168 (.string mClose)] 222 ∧ Below W0.heap.size W0 W) ?_ (fun E1 => ?_)
    · rintro ⟨b14, b7⟩ W ⟨f0, f1, hb⟩
      try dsimp only at f0 f1
      have hHeld := hS W hb
      refine norm_ (a' := ?_) ?_ ?_
      rotate_left
      · simp only [putAll, Act.put, List.setIfInBounds_toArray, List.set_cons_zero, List.set_cons_succ]
        rfl
      refine one_ (i := 2) (N := some 15) #[true, true, true, true, false, false, true, true, false, false, false] rfl rfl (by kernel_rfl) (by decide) (fun K hK => ?_)
      refine goes_ Tryz.func107 (by kernel_rfl) rfl #[.slice (some ⟨b14, 0, none⟩) 1 1] (by rfl) rfl rfl (by (try simp only [List.map_toArray, List.map_cons, List.map_nil]); first | done | rfl) ?_
      refine (markC mOpen b14 _ W f0 (HG.out.below hb)).mono ?_
      rintro e w2 ⟨v2, rfl, ho2, hb2⟩
      have hb3 := hb.trans (hb2.mono hb.size)
      refine ⟨_, rfl, ?_⟩
      refine hK.out _ _ (hS _ hb3) (fun hHeld => ?_)
      clear hK K
      exact E2 (_, v2, b7) w2 ⟨Kd.R_lower ho2 hb.size, blk_below f1 hb2, hb3⟩
    refine join_ 7 #[true, false, false, true, false, false, true, true, false, false, false] (fun s : Nat => [(20, .slice (some ⟨s, 0, none⟩) 1 1)]) (fun s W => Own W s #[.iface 168 (.string mClose)] 222 ∧ Below W0.heap.size W0 W) ?_ (fun E0 => ?_)
    · rintro b7 W ⟨f0, hb⟩
      try dsimp only at f0
      have hHeld := hS W hb
      refine norm_ (a' := ?_) ?_ ?_
      rotate_left
      · simp only [putAll, Act.put, List.setIfInBounds_toArray, List.set_cons_zero, List.set_cons_succ]
        rfl
      refine one_ (i := 1) (N := some 14) #[true, true, false, true, false, false, true, true, false, false, false] rfl rfl (by kernel_rfl) (by decide) (fun K hK => ?_)
      refine value_ (w1 := ?_) (v := ?_) (by rfl) rfl ?_ ?_
      rotate_left 2
      · go_simp
        constructor
        · rfl
        · rfl
      refine hK.out _ _ (hS _ (hb.trans ((below_alloc (Below.refl _ _) _).mono hb.size))) (fun hHeld => ?_)
      clear hK K
      exact E1 (W.heap.size, b7) _ ⟨Own.new _ _ _, Own.alloc f0 _, hb.trans ((below_alloc (Below.refl _ _) _).mono hb.size)⟩
    refine join_ 4 #[true, true, true, true, true, true, true, false, false, false, false] (fun s : Value × Value × Value × Value => [(14, s.1), (15, s.2.1), (17, s.2.2.1), (18, s.2.2.2)]) (fun s W => Kd.R k106 106 W W0.heap.size (fun _ => True) s.2.2.2 ([markTok mOpen] ++ toksT t) ∧ Below W0.heap.size W0 W) ?_ (fun D5 => ?_)
    · rintro ⟨x14, x15, x17, v18⟩ W ⟨f0, hb⟩
      try dsimp only at f0
      have hHeld := hS W hb
      refine norm_ (a' := ?_) ?_ ?_
      rotate_left
      · simp only [putAll, Act.put, List.setIfInBounds_toArray, List.set_cons_zero, List.set_cons_succ]
        rfl
      refine one_ (i := 7) (N := some 20) #[true, true, true, true, true, true, true, true, false, false, false] rfl rfl (by kernel_rfl) (by decide) (fun K hK => ?_)
      refine value_ (w1 := ?_) (v := ?_) (by rfl) rfl ?_ ?_
      rotate_left 2
      · go_simp
        constructor
        · rfl
        · rfl
      refine hK.out _ _ (hS _ (hb.trans ((below_alloc (Below.refl _ _) _).mono hb.size))) (fun hHeld => ?_)
      clear hK K
      exact E5 (x14, x15, x17, v18, W.heap.size) _ ⟨Kd.R_alloc f0 _, Own.new _ _ _, hb.trans ((below_alloc (Below.refl _ _) _).mono hb.size)⟩
    refine join_ 5 #[true, true, true, true, true, false, true, false, false, false, false] (fun s : Value × Value × Value => [(14, s.1), (15, s.2.1), (17, s.2.2)]) (fun s W => Kd.R k106 106 W W0.heap.size (fun _ => True) s.2.1 [markTok mOpen] ∧ Kd.R k106 106 W W0.heap.size (fun _ => True) s.2.2 (toksT t) ∧ Below W0.heap.size W0 W) ?_ (fun D4 => ?_)
    · rintro ⟨x14, v15, v17⟩ W ⟨f0, f1, hb⟩
      try dsimp only at f0 f1
      have hHeld := hS W hb
      refine norm_ (a' := ?_) ?_ ?_
      rotate_left
      · simp only [putAll, Act.put, List.setIfInBounds_toArray, List.set_cons_zero, List.set_cons_succ]
        rfl
      refine two_ (i := 5) (j := 7) (Ni := some 18) (Nj := some 20) #[true, true, true, true, true, true, true, false, false, false, false] #[true, true, true, true, true, false, true, true, false, false, false] rfl rfl rfl rfl (by kernel_rfl) (by decide) (by decide) (fun K hK => ?_) (fun K hK => ?_)
      · skip
        obtain ⟨A17, c17, rfl⟩ := Kd.R_slice f1
        refine Kd.R_append_rows_step k106 (w0 := W0) W0.heap.size (by rfl) (.tmp 15) (.tmp 17) 22 106 zTok 32 rfl Tryz.underlying22 info106 rfl (by decide) (by omega) _ [markTok mOpen] (toksT t) _ _ _ (fun _ => True) (fun _ => False) rfl rfl f0 (Kd.R_reads' f1).2.2 (fun _ _ h => h) (fun _ h => h.elim) (fun _ _ => trivial) hb hb.size ?_ ?_
        · have := HL.out; simp only [List.length_cons, List.length_nil]; omega
        intro v1 w1 ho1 hb1 hg hat
        refine hK.out _ _ (hS _ hb1) (fun hHeld => ?_)
        clear hK K
        exact D5 (x14, v15, _, v1) w1 ⟨ho1, hb1⟩
      · skip
        refine value_ (w1 := ?_) (v := ?_) (by rfl) rfl ?_ ?_
        rotate_left 2
        · go_simp
          constructor
          · rfl
          · rfl
        refine hK.out _ _ (hS _ (hb.trans ((below_alloc (Below.refl _ _) _).mono hb.size))) (fun hHeld => ?_)
        clear hK K
        exact E4 (x14, v15, v17, W.heap.size) _ ⟨Kd.R_alloc f0 _, Kd.R_alloc f1 _, Own.new _ _ _, hb.trans ((below_alloc (Below.refl _ _) _).mono hb.size)⟩
    refine join_ 6 #[true, true, true, true, false, false, true, false, false, false, false] (fun s : Value × Value => [(14, s.1), (15, s.2)]) (fun s W => Kd.R k106 106 W W0.heap.size (fun _ => True) s.2 [markTok mOpen] ∧ Below W0.heap.size W0 W) ?_ (fun D2 => ?_)
    · rintro ⟨x14, v15⟩ W ⟨f0, hb⟩
      try dsimp only at f0
      have hHeld := hS W hb
      refine norm_ (a' := ?_) ?_ ?_
      rotate_left
      · simp only [putAll, Act.put, List.setIfInBounds_toArray, List.set_cons_zero, List.set_cons_succ]
        rfl
      refine two_ (i := 4) (j := 7) (Ni := some 17) (Nj := some 20) #[true, true, true, true, true, false, true, false, false, false, false] #[true, true, true, true, false, false, true, true, false, false, false] rfl rfl rfl rfl (by kernel_rfl) (by decide) (by decide) (fun K hK => ?_) (fun K hK => ?_)
      · skip
        refine goes_ Tryz.func65 (by kernel_rfl) rfl #[.agg #[.int .i64 t.f0, .string t.f1, .int .i64 t.f2, .slice A t.f3.length c]] (by rfl) rfl rfl (by (try simp only [List.map_toArray, List.map_cons, List.map_nil]); first | done | rfl) ?_
        refine (KT.out W hb).mono ?_
        rintro e w2 ⟨v2, rfl, ho2, hb2⟩
        have hb3 := hb.trans (hb2.mono hb.size)
        refine ⟨_, rfl, ?_⟩
        refine hK.out _ _ (hS _ hb3) (fun hHeld => ?_)
        clear hK K
        exact D4 (x14, v15, v2) w2 ⟨Kd.R_below f0 hb2, Kd.R_lower ho2 hb.size, hb3⟩
      · skip
        refine value_ (w1 := ?_) (v := ?_) (by rfl) rfl ?_ ?_
        rotate_left 2
        · go_simp
          constructor
          · rfl
          · rfl
        refine hK.out _ _ (hS _ (hb.trans ((below_alloc (Below.refl _ _) _).mono hb.size))) (fun hHeld => ?_)
        clear hK K
        exact E2 (x14, v15, W.heap.size) _ ⟨Kd.R_alloc f0 _, Own.new _ _ _, hb.trans ((below_alloc (Below.refl _ _) _).mono hb.size)⟩
    refine join_ 7 #[true, true, false, true, false, false, true, false, false, false, false] (fun s : Nat => [(14, .slice (some ⟨s, 0, none⟩) 1 1)]) (fun s W => Own W s #[.iface 168 (.string mOpen)] 222 ∧ Below W0.heap.size W0 W) ?_ (fun D1 => ?_)
    · rintro b14 W ⟨f0, hb⟩
      try dsimp only at f0
      have hHeld := hS W hb
      refine norm_ (a' := ?_) ?_ ?_
      rotate_left
      · simp only [putAll, Act.put, List.setIfInBounds_toArray, List.set_cons_zero, List.set_cons_succ]
        rfl
      refine two_ (i := 2) (j := 7) (Ni := some 15) (Nj := some 20) #[true, true, true, true, false, false, true, false, false, false, false] #[true, true, false, true, false, false, true, true, false, false, false] rfl rfl rfl rfl (by kernel_rfl) (by decide) (by decide) (fun K hK => ?_) (fun K hK => ?_)
      · skip
        refine goes_ Tryz.func107 (by kernel_rfl) rfl #[.slice (some ⟨b14, 0, none⟩) 1 1] (by rfl) rfl rfl (by (try simp only [List.map_toArray, List.map_cons, List.map_nil]); first | done | rfl) ?_
        refine (markC mOpen b14 _ W f0 (HG.out.below hb)).mono ?_
        rintro e w2 ⟨v2, rfl, ho2, hb2⟩
        have hb3 := hb.trans (hb2.mono hb.size)
        refine ⟨_, rfl, ?_⟩
        refine hK.out _ _ (hS _ hb3) (fun hHeld => ?_)
        clear hK K
        exact D2 (_, v2) w2 ⟨Kd.R_lower ho2 hb.size, hb3⟩
      · skip
        refine value_ (w1 := ?_) (v := ?_) (by rfl) rfl ?_ ?_
        rotate_left 2
        · go_simp
          constructor
          · rfl
          · rfl
        refine hK.out _ _ (hS _ (hb.trans ((below_alloc (Below.refl _ _) _).mono hb.size))) (fun hHeld => ?_)
        clear hK K
        exact E1 (b14, W.heap.size) _ ⟨Own.alloc f0 _, Own.new _ _ _, hb.trans ((below_alloc (Below.refl _ _) _).mono hb.size)⟩
    refine two_ (i := 1) (j := 7) (Ni := some 14) (Nj := some 20) #[true, true, false, true, false, false, true, false, false, false, false] #[true, false, false, true, false, false, true, true, false, false, false] rfl rfl rfl rfl (by kernel_rfl) (by decide) (by decide) (fun K hK => ?_) (fun K hK => ?_)
    · skip
      refine value_ (w1 := ?_) (v := ?_) (by rfl) rfl ?_ ?_
      rotate_left 2
      · go_simp
        constructor
        · rfl
        · rfl
      refine hK.out _ _ (hS _ (hD.trans ((below_alloc (Below.refl _ _) _).mono hD.size))) (fun hHeld => ?_)
      clear hK K
      exact D1 W1.heap.size _ ⟨Own.new _ _ _, hD.trans ((below_alloc (Below.refl _ _) _).mono hD.size)⟩
    · skip
      refine value_ (w1 := ?_) (v := ?_) (by rfl) rfl ?_ ?_
      rotate_left 2
      · go_simp
        constructor
        · rfl
        · rfl
      refine hK.out _ _ (hS _ (hD.trans ((below_alloc (Below.refl _ _) _).mono hD.size))) (fun hHeld => ?_)
      clear hK K
      exact E0 W1.heap.size _ ⟨Own.new _ _ _, hD.trans ((below_alloc (Below.refl _ _) _).mono hD.size)⟩
end Go.Proofs.YtchekgnacodolaaGreatDoor.X
end
section
namespace Go.Proofs.YtchekgnacodolaaGreatDoor.X
open Go.RowKit Go.Proofs.YtchekgnacodolaaGreatDoorW.PrintWords Go.Proofs.YtchekgnacodolaaGreatDoorW.PrintLast Go.Proofs.YtchekgnacodolaaGreatDoorW.PrintMore
set_option linter.unusedSimpArgs false
set_option linter.unusedVariables false
theorem ret4k {fn : Func} {p N : Nat} {tmps : Array Value} {w : World} {a b c d : Value} {R : Ending → World → Prop} (h : fn.results = #[.cell p 163]) (hp : tmps.getD p undef = .pointer (some ⟨N, 0, none⟩)) (hb : Own w N #[a, b, c, d] 163) (hR : R (.returned (.agg #[a, b, c, d])) w) : bodyPost Tryz.prog fn R Exit.ret { tmps := tmps, defers := [] } w :=
  bodyPost_ret (results_cell_row h tmps w N 163 #[a, b, c, d] (0, 0) _ hp hb Tryz.underlying163 rfl (by kernel_rfl)) rfl hR
set_option maxRecDepth 100000 in
set_option maxHeartbeats 4000000 in
theorem kidC (l : List Tm) (i : Nat) (x : Tm) (j : Int) (hj : j = (i : Int)) (hx : l[i]? = some x) (k : Int) (nm : ByteArray) (n : Int) (A : Option Addr) (c N : Nat) (w : World) (hO : Own w N #[.int .i64 k, .string nm, .int .i64 n, .slice A l.length c] 26) (hC : Kd.C k26 w A l.length l) :
    Calls Tryz.prog 106 #[.int .i64 j, .pointer (some ⟨N, 0, none⟩)] w fun e w' => ∃ A3 c3, e = .returned (.agg #[.int .i64 x.f0, .string x.f1, .int .i64 x.f2, .slice A3 x.f3.length c3]) ∧ TmR w' x (.agg #[.int .i64 x.f0, .string x.f1, .int .i64 x.f2, .slice A3 x.f3.length c3]) ∧ Below w.heap.size w w' := by
  subst hj
  obtain ⟨hlt, rfl⟩ := List.getElem?_eq_some_iff.1 hx
  have hb0 := below_alloc (Below.refl w.heap.size w) (.cells zeroV 163)
  obtain ⟨ad, A3, c3, rfl, a0, a1, a2, a3, ha⟩ := TmR.at hC i hlt
  replace a0 := pw_cell_below hb0 a0
  replace a1 := pw_cell_below hb0 a1
  replace a2 := pw_cell_below hb0 a2
  replace a3 := pw_cell_below hb0 a3
  have hdd : decide ((i : Int) < (l.length : Int)) = true := by rw [decide_eq_true_eq]; omega
  have hd0 : decide (0 ≤ (i : Int)) = true := by rw [decide_eq_true_eq]; omega
  have B1 : Own _ _ _ _ := blk_below hO hb0
  have b3 := B1.cell 3
  have X := Own.new w zeroV 163
  have x0 := X.cell 0
  have x1 := X.cell 1
  have x2 := X.cell 2
  have x3 := X.cell 3
  have xz := fun i => X.fz i
  have HX := Lib.hid X
  have HB := Lib.hid hb0
  have HA := Lib.hid ha
  clear hO hC B1 X ha hb0 hx
  generalize l[i] = x at *
  go_enter Tryz.func106, Tryz.ntmps106
  go_wp2_with fail
  refine ret4k rfl rfl (Own.new _ _ _) ?_
  exact ⟨A3, c3, rfl, HA.out.below (below_alloc (Below.refl _ _) _), below_alloc (Below.refl _ _) _⟩
set_option maxRecDepth 100000 in
set_option maxHeartbeats 8000000 in
theorem toks_var (nm : ByteArray) (hlen : (toksT (tm 2 nm [])).length ≤ 900000) : ToksH (tm 2 nm []) := by
  rintro vt w ⟨A, c, rfl, hl, hA⟩ hG
  show Calls _ _ #[.agg #[.int .i64 2, .string nm, .int .i64 0, .slice A 0 c]] w _
  obtain ⟨W0, hW0⟩ : ∃ W0, W0 = w.alloc (.cells #[.int .i64 2, .string nm, .int .i64 0, .slice A 0 c] 26) := ⟨_, rfl⟩
  have hb0 : Below w.heap.size w W0 := by rw [hW0]; exact below_alloc (Below.refl _ _) _
  have B1 : Own W0 w.heap.size #[.int .i64 2, .string nm, .int .i64 0, .slice A 0 c] 26 := by rw [hW0]; exact Own.new _ _ _
  have b0 := B1.cell 0
  have b1 := B1.cell 1
  have b2 := B1.cell 2
  have HG := Lib.hid (hG.below hb0)
  have HA := Lib.hid (show Kd.C k26 W0 A 0 [] from Kd.C_below hA hb0)
  have HB := Lib.hid hb0
  have HO := Lib.hid B1
  have HL := Lib.hid hlen
  have HE := Lib.hid (show toksT (tm 2 nm []) = ptsT [.name nm] by simp [toksT, withinsT, layT, tm, ptsT, Pt.toks, inT])
  rw [HE.out] at HL ⊢
  clear hG hA hb0 B1 hlen hl
  go_enter Tryz.func65, Tryz.ntmps65
  go_wp2_with fail
  rw [← hW0]
  have hbb : Below W0.heap.size W0 W0 := Below.refl _ _
  have HBB := Lib.hid hbb
  have hsz : W0.heap.size = w.heap.size + 1 := by rw [hW0]; simp
  have hA2 := below_alloc (Below.refl W0.heap.size W0) (.cells #[.iface 165 (.string nm)] 222)
  have hb9 := HBB.out.trans (hA2.mono HBB.out.size)
  refine (laidC [.name nm] [.iface 165 (.string nm)] (fun t ht => by simp at ht) (by have := HL.out; omega) _ _ 1 _ (by show 1 ≤ _; omega) (.cons rfl .nil) (show Own _ (w.heap.size + 1) _ _ by rw [← hsz]; exact Own.new _ _ _) (HG.out.below hb9)).mono ?_
  rintro e w9 ⟨v9, rfl, ho, hb⟩
  have HO9 := Lib.hid (Kd.R_lower ho (Nat.le_trans HB.out.size hb9.size))
  have HB9 := Lib.hid (HB.out.trans ((hb9.trans (hb.mono hb9.size)).mono HB.out.size))
  clear ho hb hb9 hA2
  go_wp2_with fail
  go_ret
  exact ⟨_, rfl, by simpa [ptsT] using HO9.out, HB9.out⟩
set_option maxRecDepth 100000 in
set_option maxHeartbeats 8000000 in
theorem toks_fun (nm : ByteArray) (a : Tm) (ha : WithinH a) (hlen : (toksT (tm 3 nm [a])).length ≤ 900000) : ToksH (tm 3 nm [a]) := by
  rintro vt w ⟨A, c, rfl, hl, hA⟩ hG
  show Calls _ _ #[.agg #[.int .i64 3, .string nm, .int .i64 0, .slice A 1 c]] w _
  obtain ⟨W0, hW0⟩ : ∃ W0, W0 = w.alloc (.cells #[.int .i64 3, .string nm, .int .i64 0, .slice A 1 c] 26) := ⟨_, rfl⟩
  have hb0 : Below w.heap.size w W0 := by rw [hW0]; exact below_alloc (Below.refl _ _) _
  have B1 : Own W0 w.heap.size #[.int .i64 3, .string nm, .int .i64 0, .slice A 1 c] 26 := by rw [hW0]; exact Own.new _ _ _
  have b0 := B1.cell 0
  have b1 := B1.cell 1
  have b2 := B1.cell 2
  have HG := Lib.hid (hG.below hb0)
  have HA := Lib.hid (show Kd.C k26 W0 A 1 [a] from Kd.C_below hA hb0)
  have HB := Lib.hid hb0
  have HO := Lib.hid B1
  have HL := Lib.hid hlen
  have HE := Lib.hid (show toksT (tm 3 nm [a]) = ptsT [.word kFun, .name nm, .mark mArrow, .kid a] by simp [toksT, withinsT, layT, tm, ptsT, Pt.toks, inT])
  rw [HE.out] at HL ⊢
  have K0 := Lib.hid (fun W (hb : Below W0.heap.size W0 W) => kidC [a] 0 a 0 rfl rfl _ _ _ A c _ W (show Own _ _ _ _ from blk_below HO.out hb) (Kd.C_below HA.out hb))
  clear hG hA hb0 B1 hlen hl
  go_enter Tryz.func65, Tryz.ntmps65
  go_wp2_with fail
  rw [← hW0]
  have hbb : Below W0.heap.size W0 W0 := Below.refl _ _
  refine (K0.out _ hbb).mono ?_
  rintro e w1 ⟨A3, c3, rfl, hv, hb⟩
  have HBB := Lib.hid (hbb.trans (hb.mono hbb.size))
  have V0 := Lib.hid hv
  clear hv hb
  go_wp2_with fail
  have hA2 := below_alloc (Below.refl w1.heap.size w1) (.cells #[.iface 167 (.string kFun), .iface 165 (.string nm), .iface 168 (.string mArrow), .iface 163 (.agg #[.int .i64 a.f0, .string a.f1, .int .i64 a.f2, .slice A3 a.f3.length c3])] 222)
  have hb9 := HBB.out.trans (hA2.mono HBB.out.size)
  refine (laidC [.word kFun, .name nm, .mark mArrow, .kid a] [.iface 167 (.string kFun), .iface 165 (.string nm), .iface 168 (.string mArrow), .iface 163 (.agg #[.int .i64 a.f0, .string a.f1, .int .i64 a.f2, .slice A3 a.f3.length c3])] (fun t ht => by
      simp only [List.mem_cons, List.not_mem_nil, or_false, Pt.kid.injEq, reduceCtorEq, false_or] at ht
      rcases ht with rfl
      exact ha) (by have := HL.out; omega) _ _ 4 _ (by show 4 ≤ _; omega) (.cons rfl (.cons rfl (.cons rfl (.cons ⟨_, rfl, V0.out.below hA2⟩ .nil)))) (Own.new _ _ _) (HG.out.below hb9)).mono ?_
  rintro e w9 ⟨v9, rfl, ho, hb⟩
  have HO9 := Lib.hid (Kd.R_lower ho (Nat.le_trans HB.out.size hb9.size))
  have HB9 := Lib.hid (HB.out.trans ((hb9.trans (hb.mono hb9.size)).mono HB.out.size))
  clear ho hb hb9 hA2
  go_wp2_with fail
  go_ret
  exact ⟨_, rfl, HO9.out, HB9.out⟩
set_option maxRecDepth 100000 in
set_option maxHeartbeats 8000000 in
theorem toks_app (a b : Tm) (ha : WithinH a) (hb : WithinH b) (hlen : (toksT (tm 4 noName [a, b])).length ≤ 900000) : ToksH (tm 4 noName [a, b]) := by
  rintro vt w ⟨A, c, rfl, hl, hA⟩ hG
  show Calls _ _ #[.agg #[.int .i64 4, .string ⟨#[]⟩, .int .i64 0, .slice A 2 c]] w _
  obtain ⟨W0, hW0⟩ : ∃ W0, W0 = w.alloc (.cells #[.int .i64 4, .string ⟨#[]⟩, .int .i64 0, .slice A 2 c] 26) := ⟨_, rfl⟩
  have hb0 : Below w.heap.size w W0 := by rw [hW0]; exact below_alloc (Below.refl _ _) _
  have B1 : Own W0 w.heap.size #[.int .i64 4, .string ⟨#[]⟩, .int .i64 0, .slice A 2 c] 26 := by rw [hW0]; exact Own.new _ _ _
  have b0 := B1.cell 0
  have b1 := B1.cell 1
  have b2 := B1.cell 2
  have HG := Lib.hid (hG.below hb0)
  have HA := Lib.hid (show Kd.C k26 W0 A 2 [a, b] from Kd.C_below hA hb0)
  have HB := Lib.hid hb0
  have HO := Lib.hid B1
  have HL := Lib.hid hlen
  have HE := Lib.hid (show toksT (tm 4 noName [a, b]) = ptsT [.kid a, .kid b] by simp [toksT, withinsT, layT, tm, ptsT, Pt.toks, inT])
  rw [HE.out] at HL ⊢
  have K0 := Lib.hid (fun W (hb : Below W0.heap.size W0 W) => kidC [a, b] 0 a 0 rfl rfl _ _ _ A c _ W (show Own _ _ _ _ from blk_below HO.out hb) (Kd.C_below HA.out hb))
  have K1 := Lib.hid (fun W (hb : Below W0.heap.size W0 W) => kidC [a, b] 1 b 1 rfl rfl _ _ _ A c _ W (show Own _ _ _ _ from blk_below HO.out hb) (Kd.C_below HA.out hb))
  clear hG hA hb0 B1 hlen hl
  go_enter Tryz.func65, Tryz.ntmps65
  go_wp2_with fail
  rw [← hW0]
  have hbb : Below W0.heap.size W0 W0 := Below.refl _ _
  refine (K0.out _ hbb).mono ?_
  rintro e w1 ⟨A3, c3, rfl, hv, hb⟩
  have HBB := Lib.hid (hbb.trans (hb.mono hbb.size))
  have V0 := Lib.hid hv
  clear hv hb
  go_wp2_with fail
  refine (K1.out _ HBB.out).mono ?_
  rintro e w2 ⟨A4, c4, rfl, hv, hb⟩
  have HBB := Lib.hid (HBB.out.trans (hb.mono HBB.out.size))
  have V0 := Lib.hid (V0.out.below hb)
  have V1 := Lib.hid hv
  clear hv hb
  go_wp2_with fail
  have hA2 := below_alloc (Below.refl w2.heap.size w2) (.cells #[.iface 163 (.agg #[.int .i64 a.f0, .string a.f1, .int .i64 a.f2, .slice A3 a.f3.length c3]), .iface 163 (.agg #[.int .i64 b.f0, .string b.f1, .int .i64 b.f2, .slice A4 b.f3.length c4])] 222)
  have hb9 := HBB.out.trans (hA2.mono HBB.out.size)
  refine (laidC [.kid a, .kid b] [.iface 163 (.agg #[.int .i64 a.f0, .string a.f1, .int .i64 a.f2, .slice A3 a.f3.length c3]), .iface 163 (.agg #[.int .i64 b.f0, .string b.f1, .int .i64 b.f2, .slice A4 b.f3.length c4])] (fun t ht => by
      simp only [List.mem_cons, List.not_mem_nil, or_false, Pt.kid.injEq, reduceCtorEq, false_or] at ht
      rcases ht with rfl | rfl
      · exact ha
      · exact hb) (by have := HL.out; omega) _ _ 2 _ (by show 2 ≤ _; omega) (.cons ⟨_, rfl, V0.out.below hA2⟩ (.cons ⟨_, rfl, V1.out.below hA2⟩ .nil)) (Own.new _ _ _) (HG.out.below hb9)).mono ?_
  rintro e w9 ⟨v9, rfl, ho, hb⟩
  have HO9 := Lib.hid (Kd.R_lower ho (Nat.le_trans HB.out.size hb9.size))
  have HB9 := Lib.hid (HB.out.trans ((hb9.trans (hb.mono hb9.size)).mono HB.out.size))
  clear ho hb hb9 hA2
  go_wp2_with fail
  go_ret
  exact ⟨_, rfl, HO9.out, HB9.out⟩
set_option maxRecDepth 100000 in
set_option maxHeartbeats 8000000 in
theorem toks_let (nm : ByteArray) (a b : Tm) (ha : WithinH a) (hb : WithinH b) (hlen : (toksT (tm 5 nm [a, b])).length ≤ 900000) : ToksH (tm 5 nm [a, b]) := by
  rintro vt w ⟨A, c, rfl, hl, hA⟩ hG
  show Calls _ _ #[.agg #[.int .i64 5, .string nm, .int .i64 0, .slice A 2 c]] w _
  obtain ⟨W0, hW0⟩ : ∃ W0, W0 = w.alloc (.cells #[.int .i64 5, .string nm, .int .i64 0, .slice A 2 c] 26) := ⟨_, rfl⟩
  have hb0 : Below w.heap.size w W0 := by rw [hW0]; exact below_alloc (Below.refl _ _) _
  have B1 : Own W0 w.heap.size #[.int .i64 5, .string nm, .int .i64 0, .slice A 2 c] 26 := by rw [hW0]; exact Own.new _ _ _
  have b0 := B1.cell 0
  have b1 := B1.cell 1
  have b2 := B1.cell 2
  have HG := Lib.hid (hG.below hb0)
  have HA := Lib.hid (show Kd.C k26 W0 A 2 [a, b] from Kd.C_below hA hb0)
  have HB := Lib.hid hb0
  have HO := Lib.hid B1
  have HL := Lib.hid hlen
  have HE := Lib.hid (show toksT (tm 5 nm [a, b]) = ptsT [.word kLet, .name nm, .mark mEq, .kid a, .word kIn, .kid b] by simp [toksT, withinsT, layT, tm, ptsT, Pt.toks, inT])
  rw [HE.out] at HL ⊢
  have K0 := Lib.hid (fun W (hb : Below W0.heap.size W0 W) => kidC [a, b] 0 a 0 rfl rfl _ _ _ A c _ W (show Own _ _ _ _ from blk_below HO.out hb) (Kd.C_below HA.out hb))
  have K1 := Lib.hid (fun W (hb : Below W0.heap.size W0 W) => kidC [a, b] 1 b 1 rfl rfl _ _ _ A c _ W (show Own _ _ _ _ from blk_below HO.out hb) (Kd.C_below HA.out hb))
  clear hG hA hb0 B1 hlen hl
  go_enter Tryz.func65, Tryz.ntmps65
  go_wp2_with fail
  rw [← hW0]
  have hbb : Below W0.heap.size W0 W0 := Below.refl _ _
  refine (K0.out _ hbb).mono ?_
  rintro e w1 ⟨A3, c3, rfl, hv, hb⟩
  have HBB := Lib.hid (hbb.trans (hb.mono hbb.size))
  have V0 := Lib.hid hv
  clear hv hb
  go_wp2_with fail
  refine (K1.out _ HBB.out).mono ?_
  rintro e w2 ⟨A4, c4, rfl, hv, hb⟩
  have HBB := Lib.hid (HBB.out.trans (hb.mono HBB.out.size))
  have V0 := Lib.hid (V0.out.below hb)
  have V1 := Lib.hid hv
  clear hv hb
  go_wp2_with fail
  have hA2 := below_alloc (Below.refl w2.heap.size w2) (.cells #[.iface 167 (.string kLet), .iface 165 (.string nm), .iface 168 (.string mEq), .iface 163 (.agg #[.int .i64 a.f0, .string a.f1, .int .i64 a.f2, .slice A3 a.f3.length c3]), .iface 167 (.string kIn), .iface 163 (.agg #[.int .i64 b.f0, .string b.f1, .int .i64 b.f2, .slice A4 b.f3.length c4])] 222)
  have hb9 := HBB.out.trans (hA2.mono HBB.out.size)
  refine (laidC [.word kLet, .name nm, .mark mEq, .kid a, .word kIn, .kid b] [.iface 167 (.string kLet), .iface 165 (.string nm), .iface 168 (.string mEq), .iface 163 (.agg #[.int .i64 a.f0, .string a.f1, .int .i64 a.f2, .slice A3 a.f3.length c3]), .iface 167 (.string kIn), .iface 163 (.agg #[.int .i64 b.f0, .string b.f1, .int .i64 b.f2, .slice A4 b.f3.length c4])] (fun t ht => by
      simp only [List.mem_cons, List.not_mem_nil, or_false, Pt.kid.injEq, reduceCtorEq, false_or] at ht
      rcases ht with rfl | rfl
      · exact ha
      · exact hb) (by have := HL.out; omega) _ _ 6 _ (by show 6 ≤ _; omega) (.cons rfl (.cons rfl (.cons rfl (.cons ⟨_, rfl, V0.out.below hA2⟩ (.cons rfl (.cons ⟨_, rfl, V1.out.below hA2⟩ .nil)))))) (Own.new _ _ _) (HG.out.below hb9)).mono ?_
  rintro e w9 ⟨v9, rfl, ho, hb⟩
  have HO9 := Lib.hid (Kd.R_lower ho (Nat.le_trans HB.out.size hb9.size))
  have HB9 := Lib.hid (HB.out.trans ((hb9.trans (hb.mono hb9.size)).mono HB.out.size))
  clear ho hb hb9 hA2
  go_wp2_with fail
  go_ret
  exact ⟨_, rfl, HO9.out, HB9.out⟩
set_option maxRecDepth 100000 in
set_option maxHeartbeats 8000000 in
theorem toks_if (a b d : Tm) (ha : WithinH a) (hb : WithinH b) (hd : WithinH d) (hlen : (toksT (tm 6 noName [a, b, d])).length ≤ 900000) : ToksH (tm 6 noName [a, b, d]) := by
  rintro vt w ⟨A, c, rfl, hl, hA⟩ hG
  show Calls _ _ #[.agg #[.int .i64 6, .string ⟨#[]⟩, .int .i64 0, .slice A 3 c]] w _
  obtain ⟨W0, hW0⟩ : ∃ W0, W0 = w.alloc (.cells #[.int .i64 6, .string ⟨#[]⟩, .int .i64 0, .slice A 3 c] 26) := ⟨_, rfl⟩
  have hb0 : Below w.heap.size w W0 := by rw [hW0]; exact below_alloc (Below.refl _ _) _
  have B1 : Own W0 w.heap.size #[.int .i64 6, .string ⟨#[]⟩, .int .i64 0, .slice A 3 c] 26 := by rw [hW0]; exact Own.new _ _ _
  have b0 := B1.cell 0
  have b1 := B1.cell 1
  have b2 := B1.cell 2
  have HG := Lib.hid (hG.below hb0)
  have HA := Lib.hid (show Kd.C k26 W0 A 3 [a, b, d] from Kd.C_below hA hb0)
  have HB := Lib.hid hb0
  have HO := Lib.hid B1
  have HL := Lib.hid hlen
  have HE := Lib.hid (show toksT (tm 6 noName [a, b, d]) = ptsT [.word kIf, .kid a, .word kThen, .kid b, .word kElse, .kid d] by simp [toksT, withinsT, layT, tm, ptsT, Pt.toks, inT])
  rw [HE.out] at HL ⊢
  have K0 := Lib.hid (fun W (hb : Below W0.heap.size W0 W) => kidC [a, b, d] 0 a 0 rfl rfl _ _ _ A c _ W (show Own _ _ _ _ from blk_below HO.out hb) (Kd.C_below HA.out hb))
  have K1 := Lib.hid (fun W (hb : Below W0.heap.size W0 W) => kidC [a, b, d] 1 b 1 rfl rfl _ _ _ A c _ W (show Own _ _ _ _ from blk_below HO.out hb) (Kd.C_below HA.out hb))
  have K2 := Lib.hid (fun W (hb : Below W0.heap.size W0 W) => kidC [a, b, d] 2 d 2 rfl rfl _ _ _ A c _ W (show Own _ _ _ _ from blk_below HO.out hb) (Kd.C_below HA.out hb))
  clear hG hA hb0 B1 hlen hl
  go_enter Tryz.func65, Tryz.ntmps65
  go_wp2_with fail
  rw [← hW0]
  have hbb : Below W0.heap.size W0 W0 := Below.refl _ _
  refine (K0.out _ hbb).mono ?_
  rintro e w1 ⟨A3, c3, rfl, hv, hb⟩
  have HBB := Lib.hid (hbb.trans (hb.mono hbb.size))
  have V0 := Lib.hid hv
  clear hv hb
  go_wp2_with fail
  refine (K1.out _ HBB.out).mono ?_
  rintro e w2 ⟨A4, c4, rfl, hv, hb⟩
  have HBB := Lib.hid (HBB.out.trans (hb.mono HBB.out.size))
  have V0 := Lib.hid (V0.out.below hb)
  have V1 := Lib.hid hv
  clear hv hb
  go_wp2_with fail
  refine (K2.out _ HBB.out).mono ?_
  rintro e w3 ⟨A5, c5, rfl, hv, hb⟩
  have HBB := Lib.hid (HBB.out.trans (hb.mono HBB.out.size))
  have V0 := Lib.hid (V0.out.below hb)
  have V1 := Lib.hid (V1.out.below hb)
  have V2 := Lib.hid hv
  clear hv hb
  go_wp2_with fail
  have hA2 := below_alloc (Below.refl w3.heap.size w3) (.cells #[.iface 167 (.string kIf), .iface 163 (.agg #[.int .i64 a.f0, .string a.f1, .int .i64 a.f2, .slice A3 a.f3.length c3]), .iface 167 (.string kThen), .iface 163 (.agg #[.int .i64 b.f0, .string b.f1, .int .i64 b.f2, .slice A4 b.f3.length c4]), .iface 167 (.string kElse), .iface 163 (.agg #[.int .i64 d.f0, .string d.f1, .int .i64 d.f2, .slice A5 d.f3.length c5])] 222)
  have hb9 := HBB.out.trans (hA2.mono HBB.out.size)
  refine (laidC [.word kIf, .kid a, .word kThen, .kid b, .word kElse, .kid d] [.iface 167 (.string kIf), .iface 163 (.agg #[.int .i64 a.f0, .string a.f1, .int .i64 a.f2, .slice A3 a.f3.length c3]), .iface 167 (.string kThen), .iface 163 (.agg #[.int .i64 b.f0, .string b.f1, .int .i64 b.f2, .slice A4 b.f3.length c4]), .iface 167 (.string kElse), .iface 163 (.agg #[.int .i64 d.f0, .string d.f1, .int .i64 d.f2, .slice A5 d.f3.length c5])] (fun t ht => by
      simp only [List.mem_cons, List.not_mem_nil, or_false, Pt.kid.injEq, reduceCtorEq, false_or] at ht
      rcases ht with rfl | rfl | rfl
      · exact ha
      · exact hb
      · exact hd) (by have := HL.out; omega) _ _ 6 _ (by show 6 ≤ _; omega) (.cons rfl (.cons ⟨_, rfl, V0.out.below hA2⟩ (.cons rfl (.cons ⟨_, rfl, V1.out.below hA2⟩ (.cons rfl (.cons ⟨_, rfl, V2.out.below hA2⟩ .nil)))))) (Own.new _ _ _) (HG.out.below hb9)).mono ?_
  rintro e w9 ⟨v9, rfl, ho, hb⟩
  have HO9 := Lib.hid (Kd.R_lower ho (Nat.le_trans HB.out.size hb9.size))
  have HB9 := Lib.hid (HB.out.trans ((hb9.trans (hb.mono hb9.size)).mono HB.out.size))
  clear ho hb hb9 hA2
  go_wp2_with fail
  go_ret
  exact ⟨_, rfl, HO9.out, HB9.out⟩
set_option maxRecDepth 100000 in
set_option maxHeartbeats 8000000 in
theorem toks_while (a b : Tm) (ha : WithinH a) (hb : WithinH b) (hlen : (toksT (tm 7 noName [a, b])).length ≤ 900000) : ToksH (tm 7 noName [a, b]) := by
  rintro vt w ⟨A, c, rfl, hl, hA⟩ hG
  show Calls _ _ #[.agg #[.int .i64 7, .string ⟨#[]⟩, .int .i64 0, .slice A 2 c]] w _
  obtain ⟨W0, hW0⟩ : ∃ W0, W0 = w.alloc (.cells #[.int .i64 7, .string ⟨#[]⟩, .int .i64 0, .slice A 2 c] 26) := ⟨_, rfl⟩
  have hb0 : Below w.heap.size w W0 := by rw [hW0]; exact below_alloc (Below.refl _ _) _
  have B1 : Own W0 w.heap.size #[.int .i64 7, .string ⟨#[]⟩, .int .i64 0, .slice A 2 c] 26 := by rw [hW0]; exact Own.new _ _ _
  have b0 := B1.cell 0
  have b1 := B1.cell 1
  have b2 := B1.cell 2
  have HG := Lib.hid (hG.below hb0)
  have HA := Lib.hid (show Kd.C k26 W0 A 2 [a, b] from Kd.C_below hA hb0)
  have HB := Lib.hid hb0
  have HO := Lib.hid B1
  have HL := Lib.hid hlen
  have HE := Lib.hid (show toksT (tm 7 noName [a, b]) = ptsT [.word kWhile, .kid a, .word kDo, .kid b] by simp [toksT, withinsT, layT, tm, ptsT, Pt.toks, inT])
  rw [HE.out] at HL ⊢
  have K0 := Lib.hid (fun W (hb : Below W0.heap.size W0 W) => kidC [a, b] 0 a 0 rfl rfl _ _ _ A c _ W (show Own _ _ _ _ from blk_below HO.out hb) (Kd.C_below HA.out hb))
  have K1 := Lib.hid (fun W (hb : Below W0.heap.size W0 W) => kidC [a, b] 1 b 1 rfl rfl _ _ _ A c _ W (show Own _ _ _ _ from blk_below HO.out hb) (Kd.C_below HA.out hb))
  clear hG hA hb0 B1 hlen hl
  go_enter Tryz.func65, Tryz.ntmps65
  go_wp2_with fail
  rw [← hW0]
  have hbb : Below W0.heap.size W0 W0 := Below.refl _ _
  refine (K0.out _ hbb).mono ?_
  rintro e w1 ⟨A3, c3, rfl, hv, hb⟩
  have HBB := Lib.hid (hbb.trans (hb.mono hbb.size))
  have V0 := Lib.hid hv
  clear hv hb
  go_wp2_with fail
  refine (K1.out _ HBB.out).mono ?_
  rintro e w2 ⟨A4, c4, rfl, hv, hb⟩
  have HBB := Lib.hid (HBB.out.trans (hb.mono HBB.out.size))
  have V0 := Lib.hid (V0.out.below hb)
  have V1 := Lib.hid hv
  clear hv hb
  go_wp2_with fail
  have hA2 := below_alloc (Below.refl w2.heap.size w2) (.cells #[.iface 167 (.string kWhile), .iface 163 (.agg #[.int .i64 a.f0, .string a.f1, .int .i64 a.f2, .slice A3 a.f3.length c3]), .iface 167 (.string kDo), .iface 163 (.agg #[.int .i64 b.f0, .string b.f1, .int .i64 b.f2, .slice A4 b.f3.length c4])] 222)
  have hb9 := HBB.out.trans (hA2.mono HBB.out.size)
  refine (laidC [.word kWhile, .kid a, .word kDo, .kid b] [.iface 167 (.string kWhile), .iface 163 (.agg #[.int .i64 a.f0, .string a.f1, .int .i64 a.f2, .slice A3 a.f3.length c3]), .iface 167 (.string kDo), .iface 163 (.agg #[.int .i64 b.f0, .string b.f1, .int .i64 b.f2, .slice A4 b.f3.length c4])] (fun t ht => by
      simp only [List.mem_cons, List.not_mem_nil, or_false, Pt.kid.injEq, reduceCtorEq, false_or] at ht
      rcases ht with rfl | rfl
      · exact ha
      · exact hb) (by have := HL.out; omega) _ _ 4 _ (by show 4 ≤ _; omega) (.cons rfl (.cons ⟨_, rfl, V0.out.below hA2⟩ (.cons rfl (.cons ⟨_, rfl, V1.out.below hA2⟩ .nil)))) (Own.new _ _ _) (HG.out.below hb9)).mono ?_
  rintro e w9 ⟨v9, rfl, ho, hb⟩
  have HO9 := Lib.hid (Kd.R_lower ho (Nat.le_trans HB.out.size hb9.size))
  have HB9 := Lib.hid (HB.out.trans ((hb9.trans (hb.mono hb9.size)).mono HB.out.size))
  clear ho hb hb9 hA2
  go_wp2_with fail
  go_ret
  exact ⟨_, rfl, HO9.out, HB9.out⟩
set_option maxRecDepth 100000 in
set_option maxHeartbeats 8000000 in
theorem toks_raise (a : Tm) (ha : WithinH a) (hlen : (toksT (tm 8 noName [a])).length ≤ 900000) : ToksH (tm 8 noName [a]) := by
  rintro vt w ⟨A, c, rfl, hl, hA⟩ hG
  show Calls _ _ #[.agg #[.int .i64 8, .string ⟨#[]⟩, .int .i64 0, .slice A 1 c]] w _
  obtain ⟨W0, hW0⟩ : ∃ W0, W0 = w.alloc (.cells #[.int .i64 8, .string ⟨#[]⟩, .int .i64 0, .slice A 1 c] 26) := ⟨_, rfl⟩
  have hb0 : Below w.heap.size w W0 := by rw [hW0]; exact below_alloc (Below.refl _ _) _
  have B1 : Own W0 w.heap.size #[.int .i64 8, .string ⟨#[]⟩, .int .i64 0, .slice A 1 c] 26 := by rw [hW0]; exact Own.new _ _ _
  have b0 := B1.cell 0
  have b1 := B1.cell 1
  have b2 := B1.cell 2
  have HG := Lib.hid (hG.below hb0)
  have HA := Lib.hid (show Kd.C k26 W0 A 1 [a] from Kd.C_below hA hb0)
  have HB := Lib.hid hb0
  have HO := Lib.hid B1
  have HL := Lib.hid hlen
  have HE := Lib.hid (show toksT (tm 8 noName [a]) = ptsT [.word kRaise, .kid a] by simp [toksT, withinsT, layT, tm, ptsT, Pt.toks, inT])
  rw [HE.out] at HL ⊢
  have K0 := Lib.hid (fun W (hb : Below W0.heap.size W0 W) => kidC [a] 0 a 0 rfl rfl _ _ _ A c _ W (show Own _ _ _ _ from blk_below HO.out hb) (Kd.C_below HA.out hb))
  clear hG hA hb0 B1 hlen hl
  go_enter Tryz.func65, Tryz.ntmps65
  go_wp2_with fail
  rw [← hW0]
  have hbb : Below W0.heap.size W0 W0 := Below.refl _ _
  refine (K0.out _ hbb).mono ?_
  rintro e w1 ⟨A3, c3, rfl, hv, hb⟩
  have HBB := Lib.hid (hbb.trans (hb.mono hbb.size))
  have V0 := Lib.hid hv
  clear hv hb
  go_wp2_with fail
  have hA2 := below_alloc (Below.refl w1.heap.size w1) (.cells #[.iface 167 (.string kRaise), .iface 163 (.agg #[.int .i64 a.f0, .string a.f1, .int .i64 a.f2, .slice A3 a.f3.length c3])] 222)
  have hb9 := HBB.out.trans (hA2.mono HBB.out.size)
  refine (laidC [.word kRaise, .kid a] [.iface 167 (.string kRaise), .iface 163 (.agg #[.int .i64 a.f0, .string a.f1, .int .i64 a.f2, .slice A3 a.f3.length c3])] (fun t ht => by
      simp only [List.mem_cons, List.not_mem_nil, or_false, Pt.kid.injEq, reduceCtorEq, false_or] at ht
      rcases ht with rfl
      exact ha) (by have := HL.out; omega) _ _ 2 _ (by show 2 ≤ _; omega) (.cons rfl (.cons ⟨_, rfl, V0.out.below hA2⟩ .nil)) (Own.new _ _ _) (HG.out.below hb9)).mono ?_
  rintro e w9 ⟨v9, rfl, ho, hb⟩
  have HO9 := Lib.hid (Kd.R_lower ho (Nat.le_trans HB.out.size hb9.size))
  have HB9 := Lib.hid (HB.out.trans ((hb9.trans (hb.mono hb9.size)).mono HB.out.size))
  clear ho hb hb9 hA2
  go_wp2_with fail
  go_ret
  exact ⟨_, rfl, HO9.out, HB9.out⟩
set_option maxRecDepth 100000 in
set_option maxHeartbeats 8000000 in
theorem toks_try (nm : ByteArray) (a b : Tm) (ha : WithinH a) (hb : WithinH b) (hlen : (toksT (tm 9 nm [a, b])).length ≤ 900000) : ToksH (tm 9 nm [a, b]) := by
  rintro vt w ⟨A, c, rfl, hl, hA⟩ hG
  show Calls _ _ #[.agg #[.int .i64 9, .string nm, .int .i64 0, .slice A 2 c]] w _
  obtain ⟨W0, hW0⟩ : ∃ W0, W0 = w.alloc (.cells #[.int .i64 9, .string nm, .int .i64 0, .slice A 2 c] 26) := ⟨_, rfl⟩
  have hb0 : Below w.heap.size w W0 := by rw [hW0]; exact below_alloc (Below.refl _ _) _
  have B1 : Own W0 w.heap.size #[.int .i64 9, .string nm, .int .i64 0, .slice A 2 c] 26 := by rw [hW0]; exact Own.new _ _ _
  have b0 := B1.cell 0
  have b1 := B1.cell 1
  have b2 := B1.cell 2
  have HG := Lib.hid (hG.below hb0)
  have HA := Lib.hid (show Kd.C k26 W0 A 2 [a, b] from Kd.C_below hA hb0)
  have HB := Lib.hid hb0
  have HO := Lib.hid B1
  have HL := Lib.hid hlen
  have HE := Lib.hid (show toksT (tm 9 nm [a, b]) = ptsT [.word kTry, .kid a, .word kWith, .name nm, .mark mArrow, .kid b] by simp [toksT, withinsT, layT, tm, ptsT, Pt.toks, inT])
  rw [HE.out] at HL ⊢
  have K0 := Lib.hid (fun W (hb : Below W0.heap.size W0 W) => kidC [a, b] 0 a 0 rfl rfl _ _ _ A c _ W (show Own _ _ _ _ from blk_below HO.out hb) (Kd.C_below HA.out hb))
  have K1 := Lib.hid (fun W (hb : Below W0.heap.size W0 W) => kidC [a, b] 1 b 1 rfl rfl _ _ _ A c _ W (show Own _ _ _ _ from blk_below HO.out hb) (Kd.C_below HA.out hb))
  clear hG hA hb0 B1 hlen hl
  go_enter Tryz.func65, Tryz.ntmps65
  go_wp2_with fail
  rw [← hW0]
  have hbb : Below W0.heap.size W0 W0 := Below.refl _ _
  refine (K0.out _ hbb).mono ?_
  rintro e w1 ⟨A3, c3, rfl, hv, hb⟩
  have HBB := Lib.hid (hbb.trans (hb.mono hbb.size))
  have V0 := Lib.hid hv
  clear hv hb
  go_wp2_with fail
  refine (K1.out _ HBB.out).mono ?_
  rintro e w2 ⟨A4, c4, rfl, hv, hb⟩
  have HBB := Lib.hid (HBB.out.trans (hb.mono HBB.out.size))
  have V0 := Lib.hid (V0.out.below hb)
  have V1 := Lib.hid hv
  clear hv hb
  go_wp2_with fail
  have hA2 := below_alloc (Below.refl w2.heap.size w2) (.cells #[.iface 167 (.string kTry), .iface 163 (.agg #[.int .i64 a.f0, .string a.f1, .int .i64 a.f2, .slice A3 a.f3.length c3]), .iface 167 (.string kWith), .iface 165 (.string nm), .iface 168 (.string mArrow), .iface 163 (.agg #[.int .i64 b.f0, .string b.f1, .int .i64 b.f2, .slice A4 b.f3.length c4])] 222)
  have hb9 := HBB.out.trans (hA2.mono HBB.out.size)
  refine (laidC [.word kTry, .kid a, .word kWith, .name nm, .mark mArrow, .kid b] [.iface 167 (.string kTry), .iface 163 (.agg #[.int .i64 a.f0, .string a.f1, .int .i64 a.f2, .slice A3 a.f3.length c3]), .iface 167 (.string kWith), .iface 165 (.string nm), .iface 168 (.string mArrow), .iface 163 (.agg #[.int .i64 b.f0, .string b.f1, .int .i64 b.f2, .slice A4 b.f3.length c4])] (fun t ht => by
      simp only [List.mem_cons, List.not_mem_nil, or_false, Pt.kid.injEq, reduceCtorEq, false_or] at ht
      rcases ht with rfl | rfl
      · exact ha
      · exact hb) (by have := HL.out; omega) _ _ 6 _ (by show 6 ≤ _; omega) (.cons rfl (.cons ⟨_, rfl, V0.out.below hA2⟩ (.cons rfl (.cons rfl (.cons rfl (.cons ⟨_, rfl, V1.out.below hA2⟩ .nil)))))) (Own.new _ _ _) (HG.out.below hb9)).mono ?_
  rintro e w9 ⟨v9, rfl, ho, hb⟩
  have HO9 := Lib.hid (Kd.R_lower ho (Nat.le_trans HB.out.size hb9.size))
  have HB9 := Lib.hid (HB.out.trans ((hb9.trans (hb.mono hb9.size)).mono HB.out.size))
  clear ho hb hb9 hA2
  go_wp2_with fail
  go_ret
  exact ⟨_, rfl, HO9.out, HB9.out⟩
set_option maxRecDepth 100000 in
set_option maxHeartbeats 8000000 in
theorem toks_get (a : Tm) (ha : WithinH a) (hlen : (toksT (tm 10 noName [a])).length ≤ 900000) : ToksH (tm 10 noName [a]) := by
  rintro vt w ⟨A, c, rfl, hl, hA⟩ hG
  show Calls _ _ #[.agg #[.int .i64 10, .string ⟨#[]⟩, .int .i64 0, .slice A 1 c]] w _
  obtain ⟨W0, hW0⟩ : ∃ W0, W0 = w.alloc (.cells #[.int .i64 10, .string ⟨#[]⟩, .int .i64 0, .slice A 1 c] 26) := ⟨_, rfl⟩
  have hb0 : Below w.heap.size w W0 := by rw [hW0]; exact below_alloc (Below.refl _ _) _
  have B1 : Own W0 w.heap.size #[.int .i64 10, .string ⟨#[]⟩, .int .i64 0, .slice A 1 c] 26 := by rw [hW0]; exact Own.new _ _ _
  have b0 := B1.cell 0
  have b1 := B1.cell 1
  have b2 := B1.cell 2
  have HG := Lib.hid (hG.below hb0)
  have HA := Lib.hid (show Kd.C k26 W0 A 1 [a] from Kd.C_below hA hb0)
  have HB := Lib.hid hb0
  have HO := Lib.hid B1
  have HL := Lib.hid hlen
  have HE := Lib.hid (show toksT (tm 10 noName [a]) = ptsT [.mark mGet, .kid a] by simp [toksT, withinsT, layT, tm, ptsT, Pt.toks, inT])
  rw [HE.out] at HL ⊢
  have K0 := Lib.hid (fun W (hb : Below W0.heap.size W0 W) => kidC [a] 0 a 0 rfl rfl _ _ _ A c _ W (show Own _ _ _ _ from blk_below HO.out hb) (Kd.C_below HA.out hb))
  clear hG hA hb0 B1 hlen hl
  go_enter Tryz.func65, Tryz.ntmps65
  go_wp2_with fail
  rw [← hW0]
  have hbb : Below W0.heap.size W0 W0 := Below.refl _ _
  refine (K0.out _ hbb).mono ?_
  rintro e w1 ⟨A3, c3, rfl, hv, hb⟩
  have HBB := Lib.hid (hbb.trans (hb.mono hbb.size))
  have V0 := Lib.hid hv
  clear hv hb
  go_wp2_with fail
  have hA2 := below_alloc (Below.refl w1.heap.size w1) (.cells #[.iface 168 (.string mGet), .iface 163 (.agg #[.int .i64 a.f0, .string a.f1, .int .i64 a.f2, .slice A3 a.f3.length c3])] 222)
  have hb9 := HBB.out.trans (hA2.mono HBB.out.size)
  refine (laidC [.mark mGet, .kid a] [.iface 168 (.string mGet), .iface 163 (.agg #[.int .i64 a.f0, .string a.f1, .int .i64 a.f2, .slice A3 a.f3.length c3])] (fun t ht => by
      simp only [List.mem_cons, List.not_mem_nil, or_false, Pt.kid.injEq, reduceCtorEq, false_or] at ht
      rcases ht with rfl
      exact ha) (by have := HL.out; omega) _ _ 2 _ (by show 2 ≤ _; omega) (.cons rfl (.cons ⟨_, rfl, V0.out.below hA2⟩ .nil)) (Own.new _ _ _) (HG.out.below hb9)).mono ?_
  rintro e w9 ⟨v9, rfl, ho, hb⟩
  have HO9 := Lib.hid (Kd.R_lower ho (Nat.le_trans HB.out.size hb9.size))
  have HB9 := Lib.hid (HB.out.trans ((hb9.trans (hb.mono hb9.size)).mono HB.out.size))
  clear ho hb hb9 hA2
  go_wp2_with fail
  go_ret
  exact ⟨_, rfl, HO9.out, HB9.out⟩
set_option maxRecDepth 100000 in
set_option maxHeartbeats 8000000 in
theorem toks_set (a b : Tm) (ha : WithinH a) (hb : WithinH b) (hlen : (toksT (tm 11 noName [a, b])).length ≤ 900000) : ToksH (tm 11 noName [a, b]) := by
  rintro vt w ⟨A, c, rfl, hl, hA⟩ hG
  show Calls _ _ #[.agg #[.int .i64 11, .string ⟨#[]⟩, .int .i64 0, .slice A 2 c]] w _
  obtain ⟨W0, hW0⟩ : ∃ W0, W0 = w.alloc (.cells #[.int .i64 11, .string ⟨#[]⟩, .int .i64 0, .slice A 2 c] 26) := ⟨_, rfl⟩
  have hb0 : Below w.heap.size w W0 := by rw [hW0]; exact below_alloc (Below.refl _ _) _
  have B1 : Own W0 w.heap.size #[.int .i64 11, .string ⟨#[]⟩, .int .i64 0, .slice A 2 c] 26 := by rw [hW0]; exact Own.new _ _ _
  have b0 := B1.cell 0
  have b1 := B1.cell 1
  have b2 := B1.cell 2
  have HG := Lib.hid (hG.below hb0)
  have HA := Lib.hid (show Kd.C k26 W0 A 2 [a, b] from Kd.C_below hA hb0)
  have HB := Lib.hid hb0
  have HO := Lib.hid B1
  have HL := Lib.hid hlen
  have HE := Lib.hid (show toksT (tm 11 noName [a, b]) = ptsT [.kid a, .mark mSet, .kid b] by simp [toksT, withinsT, layT, tm, ptsT, Pt.toks, inT])
  rw [HE.out] at HL ⊢
  have K0 := Lib.hid (fun W (hb : Below W0.heap.size W0 W) => kidC [a, b] 0 a 0 rfl rfl _ _ _ A c _ W (show Own _ _ _ _ from blk_below HO.out hb) (Kd.C_below HA.out hb))
  have K1 := Lib.hid (fun W (hb : Below W0.heap.size W0 W) => kidC [a, b] 1 b 1 rfl rfl _ _ _ A c _ W (show Own _ _ _ _ from blk_below HO.out hb) (Kd.C_below HA.out hb))
  clear hG hA hb0 B1 hlen hl
  go_enter Tryz.func65, Tryz.ntmps65
  go_wp2_with fail
  rw [← hW0]
  have hbb : Below W0.heap.size W0 W0 := Below.refl _ _
  refine (K0.out _ hbb).mono ?_
  rintro e w1 ⟨A3, c3, rfl, hv, hb⟩
  have HBB := Lib.hid (hbb.trans (hb.mono hbb.size))
  have V0 := Lib.hid hv
  clear hv hb
  go_wp2_with fail
  refine (K1.out _ HBB.out).mono ?_
  rintro e w2 ⟨A4, c4, rfl, hv, hb⟩
  have HBB := Lib.hid (HBB.out.trans (hb.mono HBB.out.size))
  have V0 := Lib.hid (V0.out.below hb)
  have V1 := Lib.hid hv
  clear hv hb
  go_wp2_with fail
  have hA2 := below_alloc (Below.refl w2.heap.size w2) (.cells #[.iface 163 (.agg #[.int .i64 a.f0, .string a.f1, .int .i64 a.f2, .slice A3 a.f3.length c3]), .iface 168 (.string mSet), .iface 163 (.agg #[.int .i64 b.f0, .string b.f1, .int .i64 b.f2, .slice A4 b.f3.length c4])] 222)
  have hb9 := HBB.out.trans (hA2.mono HBB.out.size)
  refine (laidC [.kid a, .mark mSet, .kid b] [.iface 163 (.agg #[.int .i64 a.f0, .string a.f1, .int .i64 a.f2, .slice A3 a.f3.length c3]), .iface 168 (.string mSet), .iface 163 (.agg #[.int .i64 b.f0, .string b.f1, .int .i64 b.f2, .slice A4 b.f3.length c4])] (fun t ht => by
      simp only [List.mem_cons, List.not_mem_nil, or_false, Pt.kid.injEq, reduceCtorEq, false_or] at ht
      rcases ht with rfl | rfl
      · exact ha
      · exact hb) (by have := HL.out; omega) _ _ 3 _ (by show 3 ≤ _; omega) (.cons ⟨_, rfl, V0.out.below hA2⟩ (.cons rfl (.cons ⟨_, rfl, V1.out.below hA2⟩ .nil))) (Own.new _ _ _) (HG.out.below hb9)).mono ?_
  rintro e w9 ⟨v9, rfl, ho, hb⟩
  have HO9 := Lib.hid (Kd.R_lower ho (Nat.le_trans HB.out.size hb9.size))
  have HB9 := Lib.hid (HB.out.trans ((hb9.trans (hb.mono hb9.size)).mono HB.out.size))
  clear ho hb hb9 hA2
  go_wp2_with fail
  go_ret
  exact ⟨_, rfl, HO9.out, HB9.out⟩
set_option maxRecDepth 100000 in
set_option maxHeartbeats 8000000 in
theorem toks_seq (a b : Tm) (ha : WithinH a) (hb : WithinH b) (hlen : (toksT (tm 13 noName [a, b])).length ≤ 900000) : ToksH (tm 13 noName [a, b]) := by
  rintro vt w ⟨A, c, rfl, hl, hA⟩ hG
  show Calls _ _ #[.agg #[.int .i64 13, .string ⟨#[]⟩, .int .i64 0, .slice A 2 c]] w _
  obtain ⟨W0, hW0⟩ : ∃ W0, W0 = w.alloc (.cells #[.int .i64 13, .string ⟨#[]⟩, .int .i64 0, .slice A 2 c] 26) := ⟨_, rfl⟩
  have hb0 : Below w.heap.size w W0 := by rw [hW0]; exact below_alloc (Below.refl _ _) _
  have B1 : Own W0 w.heap.size #[.int .i64 13, .string ⟨#[]⟩, .int .i64 0, .slice A 2 c] 26 := by rw [hW0]; exact Own.new _ _ _
  have b0 := B1.cell 0
  have b1 := B1.cell 1
  have b2 := B1.cell 2
  have HG := Lib.hid (hG.below hb0)
  have HA := Lib.hid (show Kd.C k26 W0 A 2 [a, b] from Kd.C_below hA hb0)
  have HB := Lib.hid hb0
  have HO := Lib.hid B1
  have HL := Lib.hid hlen
  have HE := Lib.hid (show toksT (tm 13 noName [a, b]) = ptsT [.kid a, .mark mSeq, .kid b] by simp [toksT, withinsT, layT, tm, ptsT, Pt.toks, inT])
  rw [HE.out] at HL ⊢
  have K0 := Lib.hid (fun W (hb : Below W0.heap.size W0 W) => kidC [a, b] 0 a 0 rfl rfl _ _ _ A c _ W (show Own _ _ _ _ from blk_below HO.out hb) (Kd.C_below HA.out hb))
  have K1 := Lib.hid (fun W (hb : Below W0.heap.size W0 W) => kidC [a, b] 1 b 1 rfl rfl _ _ _ A c _ W (show Own _ _ _ _ from blk_below HO.out hb) (Kd.C_below HA.out hb))
  clear hG hA hb0 B1 hlen hl
  go_enter Tryz.func65, Tryz.ntmps65
  go_wp2_with fail
  rw [← hW0]
  have hbb : Below W0.heap.size W0 W0 := Below.refl _ _
  refine (K0.out _ hbb).mono ?_
  rintro e w1 ⟨A3, c3, rfl, hv, hb⟩
  have HBB := Lib.hid (hbb.trans (hb.mono hbb.size))
  have V0 := Lib.hid hv
  clear hv hb
  go_wp2_with fail
  refine (K1.out _ HBB.out).mono ?_
  rintro e w2 ⟨A4, c4, rfl, hv, hb⟩
  have HBB := Lib.hid (HBB.out.trans (hb.mono HBB.out.size))
  have V0 := Lib.hid (V0.out.below hb)
  have V1 := Lib.hid hv
  clear hv hb
  go_wp2_with fail
  have hA2 := below_alloc (Below.refl w2.heap.size w2) (.cells #[.iface 163 (.agg #[.int .i64 a.f0, .string a.f1, .int .i64 a.f2, .slice A3 a.f3.length c3]), .iface 168 (.string mSeq), .iface 163 (.agg #[.int .i64 b.f0, .string b.f1, .int .i64 b.f2, .slice A4 b.f3.length c4])] 222)
  have hb9 := HBB.out.trans (hA2.mono HBB.out.size)
  refine (laidC [.kid a, .mark mSeq, .kid b] [.iface 163 (.agg #[.int .i64 a.f0, .string a.f1, .int .i64 a.f2, .slice A3 a.f3.length c3]), .iface 168 (.string mSeq), .iface 163 (.agg #[.int .i64 b.f0, .string b.f1, .int .i64 b.f2, .slice A4 b.f3.length c4])] (fun t ht => by
      simp only [List.mem_cons, List.not_mem_nil, or_false, Pt.kid.injEq, reduceCtorEq, false_or] at ht
      rcases ht with rfl | rfl
      · exact ha
      · exact hb) (by have := HL.out; omega) _ _ 3 _ (by show 3 ≤ _; omega) (.cons ⟨_, rfl, V0.out.below hA2⟩ (.cons rfl (.cons ⟨_, rfl, V1.out.below hA2⟩ .nil))) (Own.new _ _ _) (HG.out.below hb9)).mono ?_
  rintro e w9 ⟨v9, rfl, ho, hb⟩
  have HO9 := Lib.hid (Kd.R_lower ho (Nat.le_trans HB.out.size hb9.size))
  have HB9 := Lib.hid (HB.out.trans ((hb9.trans (hb.mono hb9.size)).mono HB.out.size))
  clear ho hb hb9 hA2
  go_wp2_with fail
  go_ret
  exact ⟨_, rfl, HO9.out, HB9.out⟩
end Go.Proofs.YtchekgnacodolaaGreatDoor.X
end
section
namespace Go.Proofs.YtchekgnacodolaaGreatDoor.X
open Go.RowKit Go.Proofs.YtchekgnacodolaaGreatDoorW.PrintWords Go.Proofs.YtchekgnacodolaaGreatDoorW.PrintLast Go.Proofs.YtchekgnacodolaaGreatDoorW.PrintMore
set_option linter.unusedSimpArgs false
set_option linter.unusedVariables false
set_option maxRecDepth 100000 in
set_option maxHeartbeats 8000000 in
theorem toks_num (n : Int) (h0 : 0 ≤ n) (h1 : n < 2147483648) : ToksH ⟨1, noName, n, []⟩ := by
  rintro vt w ⟨A, c, rfl, hl, hA⟩ hG
  show Calls _ _ #[.agg #[.int .i64 1, .string ⟨#[]⟩, .int .i64 n, .slice A 0 c]] w _
  obtain ⟨W0, hW0⟩ : ∃ W0, W0 = w.alloc (.cells #[.int .i64 1, .string ⟨#[]⟩, .int .i64 n, .slice A 0 c] 26) := ⟨_, rfl⟩
  have hb0 : Below w.heap.size w W0 := by rw [hW0]; exact below_alloc (Below.refl _ _) _
  have B1 : Own W0 w.heap.size #[.int .i64 1, .string ⟨#[]⟩, .int .i64 n, .slice A 0 c] 26 := by rw [hW0]; exact Own.new _ _ _
  have b0 := B1.cell 0
  have b1 := B1.cell 1
  have HG := Lib.hid (hG.below hb0)
  have HB := Lib.hid hb0
  have HO := Lib.hid B1
  have HE := Lib.hid (show toksT ⟨1, noName, n, []⟩ = [numTok n] by simp [toksT, withinsT, layT])
  rw [HE.out]
  have HN := Lib.hid (And.intro h0 h1)
  clear hG hA hb0 B1 hl h0 h1
  go_enter Tryz.func65, Tryz.ntmps65
  go_wp2_with fail
  rw [← hW0]
  have hS : ∀ W, Below W0.heap.size W0 W → (fun w' => w'.cell? ⟨w.heap.size, 2, none⟩ = some (.int .i64 n)) W := fun W hb => by
    have B2 : Own _ _ _ _ := blk_below HO.out hb
    exact B2.cell 2
  refine start_ (n := 8) (S := fun w' => w'.cell? ⟨w.heap.size, 2, none⟩ = some (.int .i64 n)) (ds := [7]) #[false, false, false, false, false, false, false, false] (by kernel_rfl) rfl rfl (hS _ (below_drew (Below.refl _ _))) (fun hHeld => ?_)
  have hD : Below W0.heap.size W0 W0.drew := below_drew (Below.refl _ _)
  generalize W0.drew = W1 at hD hHeld ⊢
  refine pure_ (i := 0) (N := some 12) (v := ?_) (a' := ?_) #[true, false, false, false, false, false, false, false] rfl rfl (by kernel_rfl) (fun _ _ _ h => h) (Or.inl ⟨by rfl, ?_⟩) ?_ ?_
  rotate_left
  · intro w'
    go_simp
    with_reducible rfl
  rotate_left
  · simp only [Act.put, List.setIfInBounds_toArray, List.set_cons_zero, List.set_cons_succ]
    rfl
  refine pure_ (i := 3) (N := some 15) (v := ?_) (a' := ?_) #[true, false, false, true, false, false, false, false] rfl rfl (by kernel_rfl) (fun _ _ _ h => h) (Or.inl ⟨by rfl, ?_⟩) ?_ ?_
  rotate_left
  · intro w'
    go_simp
    with_reducible rfl
  rotate_left
  · simp only [Act.put, List.setIfInBounds_toArray, List.set_cons_zero, List.set_cons_succ]
    rfl
  refine take_ (i := 1) (N := some 13) (v := ?_) (a' := ?_) #[true, true, false, true, false, false, false, false] rfl rfl (by kernel_rfl) (fun _ _ _ h => h) (Or.inl ⟨by rfl, ?_⟩) hHeld ?_ ?_
  rotate_left
  · intro w' s0
    go_simp
    with_reducible rfl
  rotate_left
  · simp only [Act.put, List.setIfInBounds_toArray, List.set_cons_zero, List.set_cons_succ]
    rfl
  refine take_ (i := 4) (N := some 16) (v := ?_) (a' := ?_) #[true, true, false, true, true, false, false, false] rfl rfl (by kernel_rfl) (fun _ _ _ h => h) (Or.inl ⟨by rfl, ?_⟩) hHeld ?_ ?_
  rotate_left
  · intro w' s0
    go_simp
    with_reducible rfl
  rotate_left
  · simp only [Act.put, List.setIfInBounds_toArray, List.set_cons_zero, List.set_cons_succ]
    rfl
  refine one_ (i := 2) (N := some 14) #[true, true, true, true, true, false, false, false] rfl rfl (by kernel_rfl) (by decide) (fun K hK => ?_)
  refine goes_ Tryz.func81 (by kernel_rfl) rfl #[.int .i64 n, .int .i64 10] (by rfl) rfl rfl (by (try simp only [List.map_toArray, List.map_cons, List.map_nil]); first | done | rfl) ?_
  have h0 := HN.out.1
  have h1 := HN.out.2
  refine (Tryz.strconv_FormatInt_10 n (by omega) (by omega) W1 (HG.out.below hD).pow).mono ?_
  rintro e w2 ⟨rfl, k, os, hw⟩
  have hb2 : Below W1.heap.size W1 w2 := by rw [hw]; exact Lib.below_grow _ _ (Nat.le_refl _) _ _
  have hb3 := hD.trans (hb2.mono hD.size)
  clear hw
  have hs : (⟨(Lib.itoa n).toArray⟩ : ByteArray) = B (itoaF n) := by rw [itoaF_eq n (by omega) (by omega)]; rfl
  rw [hs]
  refine ⟨_, rfl, ?_⟩
  refine hK.out _ _ (hS _ hb3) (fun hHeld => ?_)
  clear hK K
  refine norm_ (a' := ?_) ?_ ?_
  rotate_left
  · show Act.put _ (some 14) _ = _
    simp only [Act.put, List.setIfInBounds_toArray, List.set_cons_zero, List.set_cons_succ]
    rfl
  refine pure_ (i := 5) (N := some 17) (v := ?_) (a' := ?_) #[true, true, true, true, true, true, false, false] rfl rfl (by kernel_rfl) (fun _ _ _ h => h) (Or.inl ⟨by rfl, ?_⟩) ?_ ?_
  rotate_left
  · intro w'
    go_simp
    with_reducible rfl
  rotate_left
  · simp only [Act.put, List.setIfInBounds_toArray, List.set_cons_zero, List.set_cons_succ]
    rfl
  refine one_ (i := 6) (N := some 18) #[true, true, true, true, true, true, true, false] rfl rfl (by kernel_rfl) (by decide) (fun K hK => ?_)
  refine Kd.R_lit_step k106 (w0 := W0) W0.heap.size 106 (by rfl) (N := 18) rfl (xs := [numTok n]) (inner := [.int .i64 2, .string (B (itoaF n)), .int .i64 n]) (ok := fun _ => True) (okp := fun _ => False) (by first | (go_simp; done) | (go_simp; rfl)) (Reps.c3 (k106_mkM _ _ _ (numTok n)) (Reps.none _ _)) (fun _ h => h.elim) trivial hb3 hb3.size (by show 1 ≤ _; decide) ?_
  intro v1 w1 ho1 hb1 hg hat
  refine hK.out _ _ (hS _ hb1) (fun hHeld => ?_)
  clear hK K
  refine norm_ (a' := ?_) ?_ ?_
  rotate_left
  · show Act.put _ (some 18) _ = _
    simp only [Act.put, List.setIfInBounds_toArray, List.set_cons_zero, List.set_cons_succ]
    rfl
  refine pure_ (i := 7) (N := some 2) (v := ?_) (a' := ?_) #[true, true, true, true, true, true, true, true] rfl rfl (by kernel_rfl) (fun _ _ _ h => h) (Or.inl ⟨by rfl, ?_⟩) ?_ ?_
  rotate_left
  · intro w'
    go_simp
    with_reducible rfl
  rotate_left
  · simp only [Act.put, List.setIfInBounds_toArray, List.set_cons_zero, List.set_cons_succ]
    rfl
  refine done_ (by kernel_rfl) ?_
  have HO1 := Lib.hid (Kd.R_lower ho1 HB.out.size)
  have HB1 := Lib.hid (HB.out.trans (hb1.mono HB.out.size))
  clear hb1 hg hat ho1 hb3 hb2 hS hD
  go_wp2_with fail
  go_ret
  exact ⟨_, rfl, HO1.out, HB1.out⟩
set_option maxRecDepth 100000 in
set_option maxHeartbeats 8000000 in
theorem toks_op (nm : ByteArray) (a b : Tm) (ha : WithinH a) (hb : WithinH b) (hlen : (toksT (tm 12 nm [a, b])).length ≤ 900000) : ToksH (tm 12 nm [a, b]) := by
  rintro vt w ⟨A, c, rfl, hl, hA⟩ hG
  show Calls _ _ #[.agg #[.int .i64 12, .string nm, .int .i64 0, .slice A 2 c]] w _
  obtain ⟨W0, hW0⟩ : ∃ W0, W0 = w.alloc (.cells #[.int .i64 12, .string nm, .int .i64 0, .slice A 2 c] 26) := ⟨_, rfl⟩
  have hb0 : Below w.heap.size w W0 := by rw [hW0]; exact below_alloc (Below.refl _ _) _
  have B1 : Own W0 w.heap.size #[.int .i64 12, .string nm, .int .i64 0, .slice A 2 c] 26 := by rw [hW0]; exact Own.new _ _ _
  have b0 := B1.cell 0
  have b1 := B1.cell 1
  have b2 := B1.cell 2
  have HG := Lib.hid (hG.below hb0)
  have HA := Lib.hid (show Kd.C k26 W0 A 2 [a, b] from Kd.C_below hA hb0)
  have HB := Lib.hid hb0
  have HO := Lib.hid B1
  have HL := Lib.hid hlen
  have HE := Lib.hid (show toksT (tm 12 nm [a, b]) = ptsT [.kid a, .mark nm, .kid b] by simp [toksT, withinsT, layT, tm, ptsT, Pt.toks, inT])
  rw [HE.out] at HL ⊢
  have K0 := Lib.hid (fun W (hb : Below W0.heap.size W0 W) => kidC [a, b] 0 a 0 rfl rfl _ _ _ A c _ W (show Own _ _ _ _ from blk_below HO.out hb) (Kd.C_below HA.out hb))
  have K1 := Lib.hid (fun W (hb : Below W0.heap.size W0 W) => kidC [a, b] 1 b 1 rfl rfl _ _ _ A c _ W (show Own _ _ _ _ from blk_below HO.out hb) (Kd.C_below HA.out hb))
  clear hG hA hb0 B1 hlen hl
  go_enter Tryz.func65, Tryz.ntmps65
  go_wp2_with fail
  rw [← hW0]
  have hS : ∀ W, Below W0.heap.size W0 W → (fun w' => w'.cell? ⟨w.heap.size, 1, none⟩ = some (.string nm)) W := fun W hb => by
    have B2 : Own _ _ _ _ := blk_below HO.out hb
    exact B2.cell 1
  refine start_ (n := 12) (S := fun w' => w'.cell? ⟨w.heap.size, 1, none⟩ = some (.string nm)) (ds := [11]) #[false, false, false, false, false, false, false, false, false, false, false, false] (by kernel_rfl) rfl rfl (hS _ (below_drew (Below.refl _ _))) (fun hHeld => ?_)
  have hD : Below W0.heap.size W0 W0.drew := below_drew (Below.refl _ _)
  generalize W0.drew = W1 at hD hHeld ⊢
  have he := fun args w => enters_ Tryz.func106 (by kernel_rfl) rfl args w
  refine pure_ (i := 0) (N := some 133) (v := ?_) (a' := ?_) #[true, false, false, false, false, false, false, false, false, false, false, false] rfl rfl (by kernel_rfl) (fun _ _ _ h => h) (Or.inl ⟨by rfl, ?_⟩) ?_ ?_
  rotate_left
  · intro w'
    go_simp
    with_reducible rfl
  rotate_left
  · simp only [Act.put, List.setIfInBounds_toArray, List.set_cons_zero, List.set_cons_succ]
    rfl
  refine pure_ (i := 3) (N := some 136) (v := ?_) (a' := ?_) #[true, false, false, true, false, false, false, false, false, false, false, false] rfl rfl (by kernel_rfl) (fun _ _ _ h => h) (Or.inl ⟨by rfl, ?_⟩) ?_ ?_
  rotate_left
  · intro w'
    go_simp
    with_reducible rfl
  rotate_left
  · simp only [Act.put, List.setIfInBounds_toArray, List.set_cons_zero, List.set_cons_succ]
    rfl
  refine pure_ (i := 6) (N := some 139) (v := ?_) (a' := ?_) #[true, false, false, true, false, false, true, false, false, false, false, false] rfl rfl (by kernel_rfl) (fun _ _ _ h => h) (Or.inl ⟨by rfl, ?_⟩) ?_ ?_
  rotate_left
  · intro w'
    go_simp
    with_reducible rfl
  rotate_left
  · simp only [Act.put, List.setIfInBounds_toArray, List.set_cons_zero, List.set_cons_succ]
    rfl
  refine take_ (i := 4) (N := some 137) (v := ?_) (a' := ?_) #[true, false, false, true, true, false, true, false, false, false, false, false] rfl rfl (by kernel_rfl) (fun _ _ _ h => h) (Or.inl ⟨by rfl, ?_⟩) hHeld ?_ ?_
  rotate_left
  · intro w' s0
    go_simp
    with_reducible rfl
  rotate_left
  · simp only [Act.put, List.setIfInBounds_toArray, List.set_cons_zero, List.set_cons_succ]
    rfl
  refine pure_ (i := 5) (N := some 138) (v := ?_) (a' := ?_) #[true, false, false, true, true, true, true, false, false, false, false, false] rfl rfl (by kernel_rfl) (fun _ _ _ h => h) (Or.inl ⟨by rfl, ?_⟩) ?_ ?_
  rotate_left
  · intro w'
    go_simp
    with_reducible rfl
  rotate_left
  · simp only [Act.put, List.setIfInBounds_toArray, List.set_cons_zero, List.set_cons_succ]
    rfl
  refine one_ (i := 1) (N := some 134) #[true, true, false, true, true, true, true, false, false, false, false, false] rfl rfl (by kernel_rfl) (by decide) (fun K hK => ?_)
  refine call_ 106 #[.int .i64 0, .pointer (some ⟨w.heap.size, 0, none⟩)] (by rfl) rfl (by unfold execOp; simp [resolve, Deferred.ofValue, invoke, Act.eval, he]) ?_
  refine (K0.out W1 hD).mono ?_
  rintro e w2 ⟨A3, c3, rfl, hv0, hq0⟩
  have hb5 := hD.trans (hq0.mono hD.size)
  refine ⟨_, rfl, ?_⟩
  refine hK.out _ _ (hS _ hb5) (fun hHeld => ?_)
  clear hK K
  refine norm_ (a' := ?_) ?_ ?_
  rotate_left
  · show Act.put _ (some 134) _ = _
    simp only [Act.put, List.setIfInBounds_toArray, List.set_cons_zero, List.set_cons_succ]
    rfl
  refine pure_ (i := 2) (N := some 135) (v := ?_) (a' := ?_) #[true, true, true, true, true, true, true, false, false, false, false, false] rfl rfl (by kernel_rfl) (fun _ _ _ h => h) (Or.inl ⟨by rfl, ?_⟩) ?_ ?_
  rotate_left
  · intro w'
    go_simp
    with_reducible rfl
  rotate_left
  · simp only [Act.put, List.setIfInBounds_toArray, List.set_cons_zero, List.set_cons_succ]
    rfl
  refine one_ (i := 7) (N := some 140) #[true, true, true, true, true, true, true, true, false, false, false, false] rfl rfl (by kernel_rfl) (by decide) (fun K hK => ?_)
  refine call_ 106 #[.int .i64 1, .pointer (some ⟨w.heap.size, 0, none⟩)] (by rfl) rfl (by unfold execOp; simp [resolve, Deferred.ofValue, invoke, Act.eval, he]) ?_
  refine (K1.out w2 hb5).mono ?_
  rintro e w3 ⟨A4, c4, rfl, hv1, hq1⟩
  have hb6 := hb5.trans (hq1.mono hb5.size)
  refine ⟨_, rfl, ?_⟩
  refine hK.out _ _ (hS _ hb6) (fun hHeld => ?_)
  clear hK K
  refine norm_ (a' := ?_) ?_ ?_
  rotate_left
  · show Act.put _ (some 140) _ = _
    simp only [Act.put, List.setIfInBounds_toArray, List.set_cons_zero, List.set_cons_succ]
    rfl
  refine pure_ (i := 8) (N := some 141) (v := ?_) (a' := ?_) #[true, true, true, true, true, true, true, true, true, false, false, false] rfl rfl (by kernel_rfl) (fun _ _ _ h => h) (Or.inl ⟨by rfl, ?_⟩) ?_ ?_
  rotate_left
  · intro w'
    go_simp
    with_reducible rfl
  rotate_left
  · simp only [Act.put, List.setIfInBounds_toArray, List.set_cons_zero, List.set_cons_succ]
    rfl
  have hA2 := below_alloc (Below.refl w3.heap.size w3) (.cells #[.iface 163 (.agg #[.int .i64 a.f0, .string a.f1, .int .i64 a.f2, .slice A3 a.f3.length c3]), .iface 168 (.string nm), .iface 163 (.agg #[.int .i64 b.f0, .string b.f1, .int .i64 b.f2, .slice A4 b.f3.length c4])] 222)
  have hb9 := hb6.trans (hA2.mono hb6.size)
  have hv0 := (hv0.below hq1).below hA2
  have hv1 := hv1.below hA2
  refine one_ (i := 9) (N := some 142) #[true, true, true, true, true, true, true, true, true, true, false, false] rfl rfl (by kernel_rfl) (by decide) (fun K hK => ?_)
  refine value_ (w1 := ?_) (v := ?_) (by rfl) rfl ?_ ?_
  rotate_left 2
  · go_simp
    constructor
    · rfl
    · rfl
  refine hK.out _ _ (hS _ hb9) (fun hHeld => ?_)
  clear hK K
  refine norm_ (a' := ?_) ?_ ?_
  rotate_left
  · show Act.put _ (some 142) _ = _
    simp only [Act.put, List.setIfInBounds_toArray, List.set_cons_zero, List.set_cons_succ]
    rfl
  refine one_ (i := 10) (N := some 143) #[true, true, true, true, true, true, true, true, true, true, true, false] rfl rfl (by kernel_rfl) (by decide) (fun K hK => ?_)
  refine goes_ Tryz.func107 (by kernel_rfl) rfl #[.slice (some ⟨w3.heap.size, 0, none⟩) 3 3] (by rfl) rfl rfl (by (try simp only [List.map_toArray, List.map_cons, List.map_nil]); first | done | rfl) ?_
  refine (laidC [.kid a, .mark nm, .kid b] [.iface 163 (.agg #[.int .i64 a.f0, .string a.f1, .int .i64 a.f2, .slice A3 a.f3.length c3]), .iface 168 (.string nm), .iface 163 (.agg #[.int .i64 b.f0, .string b.f1, .int .i64 b.f2, .slice A4 b.f3.length c4])] (fun t ht => by
      simp only [List.mem_cons, List.not_mem_nil, or_false, Pt.kid.injEq, reduceCtorEq, false_or] at ht
      rcases ht with rfl | rfl
      · exact ha
      · exact hb) (by have := HL.out; omega) _ _ 3 _ (by show 3 ≤ _; omega) (.cons ⟨_, rfl, hv0⟩ (.cons rfl (.cons ⟨_, rfl, hv1⟩ .nil))) (Own.new _ _ _) (HG.out.below hb9)).mono ?_
  rintro e w9 ⟨v9, rfl, ho, hbb⟩
  have hb10 := hb9.trans (hbb.mono hb9.size)
  refine ⟨_, rfl, ?_⟩
  refine hK.out _ _ (hS _ hb10) (fun hHeld => ?_)
  clear hK K
  refine norm_ (a' := ?_) ?_ ?_
  rotate_left
  · show Act.put _ (some 143) _ = _
    simp only [Act.put, List.setIfInBounds_toArray, List.set_cons_zero, List.set_cons_succ]
    rfl
  refine pure_ (i := 11) (N := some 2) (v := ?_) (a' := ?_) #[true, true, true, true, true, true, true, true, true, true, true, true] rfl rfl (by kernel_rfl) (fun _ _ _ h => h) (Or.inl ⟨by rfl, ?_⟩) ?_ ?_
  rotate_left
  · intro w'
    go_simp
    with_reducible rfl
  rotate_left
  · simp only [Act.put, List.setIfInBounds_toArray, List.set_cons_zero, List.set_cons_succ]
    rfl
  refine done_ (by kernel_rfl) ?_
  have HO9 := Lib.hid (Kd.R_lower ho (Nat.le_trans HB.out.size hb9.size))
  have HB9 := Lib.hid (HB.out.trans (hb10.mono HB.out.size))
  clear ho hbb hb10 hb9 hA2 hv0 hv1 hb5 hb6 hq0 hq1 hS hD he
  go_wp2_with fail
  go_ret
  exact ⟨_, rfl, HO9.out, HB9.out⟩
end Go.Proofs.YtchekgnacodolaaGreatDoor.X
end

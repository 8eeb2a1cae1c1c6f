-- Joined by our own program (wip/tools/prune.py) out of the seat's texts, less what this claim doesn't name.
import Derived.Deep.RegionHeld3
import Derived.Test.YtchekgnacodolaaGreatDoorJ16
import Derived.Test.YtchekgnacodolaaGreatDoorJ18
section
namespace Go.Proofs.YtchekgnacodolaaGreatDoor.X
open Go.RowKit Go.Proofs.YtchekgnacodolaaGreatDoorW.PrintWords Go.Proofs.YtchekgnacodolaaGreatDoorW.PrintLast Go.Proofs.YtchekgnacodolaaGreatDoorW.PrintMore
set_option linter.unusedSimpArgs false
set_option linter.unusedVariables false
theorem toks_in_len (t : Tm) : (toksT t).length ≤ (inT t).length := by
  unfold inT withinT
  split
  · omega
  · rw [List.length_append, List.length_cons, List.length_singleton]; omega
theorem in_len (t : Tm) : (inT t).length ≤ (toksT t).length + 2 := by
  unfold inT withinT
  split
  · omega
  · rw [List.length_append, List.length_cons, List.length_singleton]; omega
theorem lay1 (k : Int) (nm : ByteArray) (a : Tm) (h : k = 3 ∨ k = 8 ∨ k = 10) : (inT a).length ≤ (toksT (tm k nm [a])).length ∧ (toksT (tm k nm [a])).length ≤ (inT a).length + 4 := by
  rcases h with rfl | rfl | rfl <;> simp [toksT, withinsT, layT, tm, inT] <;> omega
theorem lay2 (k : Int) (nm : ByteArray) (a b : Tm) (h : k = 4 ∨ k = 5 ∨ k = 7 ∨ k = 9 ∨ k = 11 ∨ k = 12 ∨ k = 13) : (inT a).length + (inT b).length ≤ (toksT (tm k nm [a, b])).length ∧ (toksT (tm k nm [a, b])).length ≤ (inT a).length + (inT b).length + 4 := by
  rcases h with rfl | rfl | rfl | rfl | rfl | rfl | rfl <;> simp [toksT, withinsT, layT, tm, inT] <;> omega
theorem lay3 (nm : ByteArray) (a b c : Tm) : (inT a).length + (inT b).length + (inT c).length ≤ (toksT (tm 6 nm [a, b, c])).length ∧ (toksT (tm 6 nm [a, b, c])).length ≤ (inT a).length + (inT b).length + (inT c).length + 4 := by
  simp [toksT, withinsT, layT, tm, inT]; omega
theorem toks_len (t : Tm) (h : nodesT t = true) : (toksT t).length + 2 ≤ 6 * sizeT t := by
  have one : ∀ k nm a, (k = 3 ∨ k = 8 ∨ k = 10) → (toksT a).length + 2 ≤ 6 * sizeT a → (toksT (tm k nm [a])).length + 2 ≤ 6 * sizeT (tm k nm [a]) := fun k nm a hk ih => by
    have := (lay1 k nm a hk).2
    have := in_len a
    rw [size1]; omega
  have two : ∀ k nm a b, (k = 4 ∨ k = 5 ∨ k = 7 ∨ k = 9 ∨ k = 11 ∨ k = 12 ∨ k = 13) → (toksT a).length + 2 ≤ 6 * sizeT a → (toksT b).length + 2 ≤ 6 * sizeT b → (toksT (tm k nm [a, b])).length + 2 ≤ 6 * sizeT (tm k nm [a, b]) := fun k nm a b hk ih ih2 => by
    have := (lay2 k nm a b hk).2
    have := in_len a
    have := in_len b
    rw [size2]; omega
  refine shown_ind (P := fun t => (toksT t).length + 2 ≤ 6 * sizeT t) ?_ ?_ ?_ ?_ ?_ ?_ ?_ ?_ ?_ ?_ ?_ ?_ ?_ t h
  · intro n _ _; show 1 + 2 ≤ 6 * (1 + 0); omega
  · intro n _; show 1 + 2 ≤ 6 * (1 + 0); omega
  · intro nm a _ _ pa; exact one 3 nm a (by simp) pa
  · intro a b _ _ pa pb; exact two 4 noName a b (by simp) pa pb
  · intro nm a b _ _ _ pa pb; exact two 5 nm a b (by simp) pa pb
  · intro a b c _ _ _ pa pb pc
    have := (lay3 noName a b c).2
    have := in_len a
    have := in_len b
    have := in_len c
    rw [size3]; omega
  · intro a b _ _ pa pb; exact two 7 noName a b (by simp) pa pb
  · intro a _ pa; exact one 8 noName a (by simp) pa
  · intro nm a b _ _ _ pa pb; exact two 9 nm a b (by simp) pa pb
  · intro a _ pa; exact one 10 noName a (by simp) pa
  · intro a b _ _ pa pb; exact two 11 noName a b (by simp) pa pb
  · intro nm a b _ _ _ pa pb; exact two 12 nm a b (by simp) pa pb
  · intro a b _ _ pa pb; exact two 13 noName a b (by simp) pa pb
theorem show_toks (t : Tm) (h : nodesT t = true) : (toksT t).length ≤ 900000 → ToksH t := by
  have w1 : ∀ k nm a, (k = 3 ∨ k = 8 ∨ k = 10) → (toksT (tm k nm [a])).length ≤ 900000 → ((toksT a).length ≤ 900000 → ToksH a) → WithinH a := fun k nm a hk hl ih => by
    have := (lay1 k nm a hk).1
    have h2 := toks_in_len a
    exact withinC a (ih (by omega)) (by omega)
  have w2 : ∀ k nm a b, (k = 4 ∨ k = 5 ∨ k = 7 ∨ k = 9 ∨ k = 11 ∨ k = 12 ∨ k = 13) → (toksT (tm k nm [a, b])).length ≤ 900000 → ((toksT a).length ≤ 900000 → ToksH a) → ((toksT b).length ≤ 900000 → ToksH b) → WithinH a ∧ WithinH b := fun k nm a b hk hl ih ih2 => by
    have := (lay2 k nm a b hk).1
    have h2 := toks_in_len a
    have h3 := toks_in_len b
    exact ⟨withinC a (ih (by omega)) (by omega), withinC b (ih2 (by omega)) (by omega)⟩
  refine shown_ind (P := fun t => (toksT t).length ≤ 900000 → ToksH t) ?_ ?_ ?_ ?_ ?_ ?_ ?_ ?_ ?_ ?_ ?_ ?_ ?_ t h
  · intro n h0 h1 _; exact toks_num n h0 h1
  · intro nm _ hl; exact toks_var nm hl
  · intro nm a _ _ pa hl; exact toks_fun nm a (w1 3 nm a (by simp) hl pa) hl
  · intro a b _ _ pa pb hl; exact toks_app a b (w2 4 noName a b (by simp) hl pa pb).1 (w2 4 noName a b (by simp) hl pa pb).2 hl
  · intro nm a b _ _ _ pa pb hl; exact toks_let nm a b (w2 5 nm a b (by simp) hl pa pb).1 (w2 5 nm a b (by simp) hl pa pb).2 hl
  · intro a b c _ _ _ pa pb pc hl
    have := (lay3 noName a b c).1
    have h2 := toks_in_len a
    have h3 := toks_in_len b
    have h4 := toks_in_len c
    exact toks_if a b c (withinC a (pa (by omega)) (by omega)) (withinC b (pb (by omega)) (by omega)) (withinC c (pc (by omega)) (by omega)) hl
  · intro a b _ _ pa pb hl; exact toks_while a b (w2 7 noName a b (by simp) hl pa pb).1 (w2 7 noName a b (by simp) hl pa pb).2 hl
  · intro a _ pa hl; exact toks_raise a (w1 8 noName a (by simp) hl pa) hl
  · intro nm a b _ _ _ pa pb hl; exact toks_try nm a b (w2 9 nm a b (by simp) hl pa pb).1 (w2 9 nm a b (by simp) hl pa pb).2 hl
  · intro a _ pa hl; exact toks_get a (w1 10 noName a (by simp) hl pa) hl
  · intro a b _ _ pa pb hl; exact toks_set a b (w2 11 noName a b (by simp) hl pa pb).1 (w2 11 noName a b (by simp) hl pa pb).2 hl
  · intro nm a b hm _ _ pa pb hl; exact toks_op nm a b (w2 12 nm a b (by simp) hl pa pb).1 (w2 12 nm a b (by simp) hl pa pb).2 hl
  · intro a b _ _ pa pb hl; exact toks_seq a b (w2 13 noName a b (by simp) hl pa pb).1 (w2 13 noName a b (by simp) hl pa pb).2 hl
theorem right_nodes {t : Tm} (h : rightTm t = true) : nodesT t = true ∧ depthT t ≤ 200 ∧ sizeT t ≤ 10000 := by
  unfold rightTm at h
  simp only [Bool.and_eq_true, decide_eq_true_eq] at h
  exact ⟨h.2, h.1.1, h.1.2⟩
theorem show_right {t : Tm} (h : rightTm t = true) : ToksH t ∧ (toksT t).length ≤ 60000 ∧ (printL (toksT t)).length ≤ 1020000 := by
  obtain ⟨h1, h2, h3⟩ := right_nodes h
  have hl := toks_len t h1
  have hw := W_right (toks_right t h1)
  have hp := W_len (toksT t)
  exact ⟨show_toks t h1 (by omega), by omega, by omega⟩
def showS (t : Tm) : List UInt8 := if rightTm t = true then printL (toksT t) else [63]
set_option maxRecDepth 100000 in
set_option maxHeartbeats 4000000 in
theorem showC (t : Tm) (vt : Value) (w : World) (h : TmR w t vt) (hn : namesT t = true) (hs : sizeT t ≤ 9223372036854775807) (hG : GL w) (hT : GT w) :
    Calls Tryz.prog 29 #[vt] w fun e w' => e = .returned (.string (B (showS t))) ∧ Below w.heap.size w w' := by
  have hR := h
  obtain ⟨A, c, rfl, hl, hA⟩ := h
  obtain ⟨W0, hW0⟩ : ∃ W0, W0 = w.alloc (.cells #[.int .i64 t.f0, .string t.f1, .int .i64 t.f2, .slice A t.f3.length c] 26) := ⟨_, rfl⟩
  have hb0 : Below w.heap.size w W0 := by rw [hW0]; exact below_alloc (Below.refl _ _) _
  have B1 : Own W0 w.heap.size #[.int .i64 t.f0, .string t.f1, .int .i64 t.f2, .slice A t.f3.length c] 26 := by rw [hW0]; exact Own.new _ _ _
  have b0 := B1.cell 0
  have b1 := B1.cell 1
  have b2 := B1.cell 2
  have b3 := B1.cell 3
  have HG := Lib.hid (hG.below hb0)
  have HB := Lib.hid hb0
  have HO := Lib.hid B1
  have HR := Lib.hid (hR.below hb0)
  have KR := Lib.hid (termRightC t _ W0 (hR.below hb0) hn hs HG.out (hT.below hb0))
  have HS := Lib.hid (show_right (t := t))
  unfold showS
  clear hG hT hA hb0 B1 hR hn hs hl
  cases hr : rightTm t with
  | false =>
    rw [hr] at KR
    clear hr
    go_enter Tryz.func29, Tryz.ntmps29
    go_wp2_with fail
    rw [← hW0]
    refine KR.out.mono ?_
    rintro e w2 ⟨rfl, hb⟩
    have HB2 := Lib.hid (HB.out.trans (hb.mono HB.out.size))
    clear hb
    go_wp2_with fail
    go_ret
    exact ⟨rfl, HB2.out⟩
  | true =>
    have KT := Lib.hid (HS.out hr).1
    have HL := Lib.hid (HS.out hr).2
    rw [hr] at KR
    clear hr
    go_enter Tryz.func29, Tryz.ntmps29
    go_wp2_with fail
    rw [← hW0]
    refine KR.out.mono ?_
    rintro e w2 ⟨rfl, hb⟩
    have B1 : Own _ _ _ _ := blk_below HO.out hb
    have b0 := B1.cell 0
    have b1 := B1.cell 1
    have b2 := B1.cell 2
    have b3 := B1.cell 3
    have HB2 := Lib.hid (HB.out.trans (hb.mono HB.out.size))
    have KT := Lib.hid (KT.out _ w2 (HR.out.below hb) (HG.out.below hb))
    clear hb B1
    go_wp2_with fail
    refine KT.out.mono ?_
    rintro e w3 ⟨v, rfl, ho, hb⟩
    obtain ⟨A3, c3, rfl⟩ := Kd.R_slice ho
    have hr3 := Kd.R_reads' ho
    have KP := Lib.hid (printC (toksT t) A3 c3 (by have := HL.out.1; omega) (by have := HL.out.2; omega) w3 ⟨hr3.2.2, hr3.2.1⟩)
    have HB3 := Lib.hid (HB2.out.trans (hb.mono HB2.out.size))
    clear ho hb hr3
    go_wp2_with fail
    refine KP.out.mono ?_
    rintro e w4 ⟨rfl, hb⟩
    have HB4 := Lib.hid (HB3.out.trans (hb.mono HB3.out.size))
    clear hb
    go_wp2_with fail
    go_ret
    exact ⟨rfl, HB4.out⟩
end Go.Proofs.YtchekgnacodolaaGreatDoor.X
end
section
namespace Go.Proofs.YtchekgnacodolaaGreatDoor.X
open Go.RowKit Go.Proofs.YtchekgnacodolaaGreatDoorW.PrintWords Go.Proofs.YtchekgnacodolaaGreatDoorW.PrintLast Go.Proofs.YtchekgnacodolaaGreatDoorW.PrintMore
set_option linter.unusedSimpArgs false
set_option linter.unusedVariables false
structure GQ (w : World) : Prop where
  g : GL w
  t : GT w
theorem GQ.below {w w1 : World} (h : GQ w) (hb : Below w.heap.size w w1) : GQ w1 := ⟨h.g.below hb, h.t.below hb⟩
def okD (d : Dl) : Prop := d.f0.size ≤ 281474976710656 ∧ d.f1.size ≤ 281474976710656
def okF (d : Df) : Prop := d.f0.size ≤ 281474976710656 ∧ (namesT d.f1 = true ∧ sizeT d.f1 ≤ 9223372036854775807)
abbrev dlA (d : Dl) : Array Value := #[.string d.f0, .string d.f1, .int .i64 d.f2]
abbrev dfA (d : Df) (A : Option Addr) (c : Nat) : Array Value := #[.string d.f0, .int .i64 d.f1.f0, .string d.f1.f1, .int .i64 d.f1.f2, .slice A d.f1.f3.length c]
def DfR (w : World) (d : Df) (v : Value) : Prop := ∃ A c, v = .agg (dfA d A c) ∧ TmR w d.f1 (.agg #[.int .i64 d.f1.f0, .string d.f1.f1, .int .i64 d.f1.f2, .slice A d.f1.f3.length c])
theorem DfR.below {w w1 : World} {d : Df} {v : Value} (h : DfR w d v) (hb : Below w.heap.size w w1) : DfR w1 d v := by
  obtain ⟨A, c, e, ht⟩ := h
  exact ⟨A, c, e, ht.below hb⟩
theorem DfR.at {w : World} {A : Option Addr} {l : List Df} (h : Kd.C k89 w A l.length l) (i : Nat) (hi : i < l.length) :
    ∃ ad A3 c3, A = some ad ∧ w.cell? (ad.add (i * 5)) = some (.string l[i].f0) ∧ w.cell? ⟨(ad.add (i * 5)).block, (ad.add (i * 5)).off + 1, none⟩ = some (.int .i64 l[i].f1.f0) ∧ w.cell? ⟨(ad.add (i * 5)).block, (ad.add (i * 5)).off + 2, none⟩ = some (.string l[i].f1.f1) ∧ w.cell? ⟨(ad.add (i * 5)).block, (ad.add (i * 5)).off + 3, none⟩ = some (.int .i64 l[i].f1.f2) ∧ w.cell? ⟨(ad.add (i * 5)).block, (ad.add (i * 5)).off + 4, none⟩ = some (.slice A3 l[i].f1.f3.length c3) ∧ DfR w l[i] (.agg (dfA l[i] A3 c3)) := by
  obtain ⟨ad, A3, c3, e, h0, h1, h2, h3, h4, hl, hC⟩ := at_T89 h (i : Int) (by omega) (by omega)
  rw [rdDf_at l i hi, Int.toNat_natCast] at *
  exact ⟨ad, A3, c3, e, h0, h1, h2, h3, h4, A3, c3, rfl, A3, c3, rfl, hl, hC⟩
theorem Dl.at {w : World} {A : Option Addr} {l : List Dl} (h : Kd.C k87 w A l.length l) (i : Nat) (hi : i < l.length) :
    ∃ ad, A = some ad ∧ w.cell? (ad.add (i * 3)) = some (.string l[i].f0) ∧ w.cell? ⟨(ad.add (i * 3)).block, (ad.add (i * 3)).off + 1, none⟩ = some (.string l[i].f1) ∧ w.cell? ⟨(ad.add (i * 3)).block, (ad.add (i * 3)).off + 2, none⟩ = some (.int .i64 l[i].f2) := by
  obtain ⟨ad, e, h0, h1, h2⟩ := at_T87 h (i : Int) (by omega) (by omega)
  rw [rdDl_at l i hi, Int.toNat_natCast] at *
  exact ⟨ad, e, h0, h1, h2⟩
def TestD (f : FuncId) (q : Dl → Bool) (l : List Dl) : Prop := ∀ d ∈ l, ∀ w, GQ w → Calls Tryz.prog f #[.agg (dlA d)] w fun e w' => e = .returned (.bool (q d)) ∧ Below w.heap.size w w'
set_option maxRecDepth 100000 in
set_option maxHeartbeats 1000000 in
theorem setC (l : List Dl) : TestD 120 (fun d => !(d.f2 == 0)) l := by
  intro d _ w _
  go_enter Tryz.func120, Tryz.ntmps120
  go_wp2_with fail
  go_ret
  exact ⟨rfl, below_alloc (Below.refl _ _) _⟩
theorem wrongDC (l : List Dl) (h : ∀ d ∈ l, okD d) : TestD 122 wrongD l := by
  intro d hd w hG
  have h1 := h d hd
  exact prog_Decl_wrong.calls (d.f0.size + d.f1.size + 1) d.f0 d.f1 d.f2 (wrongD d) w hG.g (wrongD_eq d (Nat.le_trans h1.1 (by decide)) (Nat.le_trans h1.2 (by decide)) _ (by omega) (by omega))
theorem any_drop {α : Type} (q : α → Bool) (l : List α) (i : Nat) (h : i < l.length) : (l.drop i).any q = (q l[i] || (l.drop (i + 1)).any q) := by
  rw [List.drop_eq_getElem_cons h, List.any_cons]
set_option maxRecDepth 100000 in
set_option maxHeartbeats 4000000 in
theorem indexD (f : FuncId) (hf : f = 120 ∨ f = 122) (q : Dl → Bool) (l : List Dl) (hq : TestD f q l) (A : Option Addr) (c : Nat) (w : World) (hA : Kd.C k87 w A l.length l) (hG : GQ w) :
    Calls Tryz.prog 162 #[.slice A l.length c, .func (.func f) #[] #[]] w fun e w' => ∃ i : Int, e = .returned (.int .i64 i) ∧ decide (0 ≤ i) = l.any q ∧ Below w.heap.size w w' := by
  have HA := Lib.hid hA
  have hlen := hA.2.1
  have HG := Lib.hid hG
  have HQ := Lib.hid hq
  clear hA hG hq
  rcases hf with rfl | rfl
  all_goals
    go_enter Tryz.func162, Tryz.ntmps162
    go_wp2_with fail
    go_loopg [8] l.length (fun gk v8 wr => ∃ i : Nat, v8 = .int .i64 i ∧ i ≤ l.length ∧ gk = l.length - i ∧ Aside0 ((l.drop i).any q = l.any q) ∧ Aside0 (Below w.heap.size w wr))
    case atStart => exact ⟨0, rfl, by omega, by omega, ⟨rfl⟩, ⟨Below.refl _ _⟩⟩
    case round =>
      obtain ⟨i, rfl, hi, hgk, HS, HR⟩ := hrel
      by_cases hlt : i < l.length
      · have hdd : decide ((i : Int) < (l.length : Int)) = true := by rw [decide_eq_true_eq]; omega
        have p1 : (0 ≤ (i : Int)) = True := eq_true (by omega)
        have p2 : ((i : Int) < (l.length : Int)) = True := eq_true (by omega)
        obtain ⟨ad, rfl, a0, a1, a2⟩ := Dl.at (Kd.C_below HA.out HR.out) i hlt
        have K := Lib.hid (HQ.out l[i] (List.getElem_mem hlt) wr (HG.out.below HR.out))
        have hs := any_drop q l i hlt
        rw [HS.out] at hs
        have HS2 := Aside0.mk hs
        clear hs
        generalize l[i] = x at *
        cases hqx : q x with
        | true =>
          rw [hqx] at K
          have HQX := Lib.hid hqx
          clear hqx
          go_wp2_with fail
          refine K.out.mono ?_
          rintro e w2 ⟨rfl, hb⟩
          have HB := Lib.hid (HR.out.trans (hb.mono HR.out.size))
          clear hb
          go_wp2_with fail
          go_ret
          exact ⟨i, rfl, by rw [HS2.out, HQX.out]; simp, HB.out⟩
        | false =>
          rw [hqx] at K
          have HQX := Lib.hid hqx
          clear hqx
          go_wp2_with fail
          refine K.out.mono ?_
          rintro e w2 ⟨rfl, hb⟩
          have HB := Aside0.mk (HR.out.trans (hb.mono HR.out.size))
          clear hb
          go_wp2_with fail
          go_roundg (l.length - (i + 1))
          case measure => omega
          case rel => exact ⟨i + 1, by go_num, by omega, rfl, ⟨by rw [HS2.out, HQX.out, Bool.false_or]⟩, HB⟩
      · have hdd : decide ((i : Int) < (l.length : Int)) = false := by rw [decide_eq_false_iff_not]; omega
        have hs := HS.out
        rw [List.drop_of_length_le (by omega)] at hs
        have HS2 := Lib.hid hs
        clear hs
        go_wp2_with fail
        go_ret
        exact ⟨-1, rfl, by rw [← HS2.out]; rfl, HR.out⟩
set_option maxRecDepth 100000 in
set_option maxHeartbeats 4000000 in
theorem hasD (f : FuncId) (hf : f = 120 ∨ f = 122) (q : Dl → Bool) (l : List Dl) (hq : TestD f q l) (A : Option Addr) (c : Nat) (w : World) (hA : Kd.C k87 w A l.length l) (hG : GQ w) :
    Calls Tryz.prog 121 #[.slice A l.length c, .func (.func f) #[] #[]] w fun e w' => e = .returned (.bool (l.any q)) ∧ Below w.heap.size w w' := by
  have HK := Lib.hid (indexD f hf q l hq A c w hA hG)
  clear hq hA hG hf
  go_enter Tryz.func121, Tryz.ntmps121
  go_wp2_with fail
  refine HK.out.mono ?_
  rintro e w1 ⟨i, rfl, hi, hb⟩
  have HI := Lib.hid hi
  have HB := Lib.hid hb
  clear hi hb
  go_wp2_with fail
  go_ret
  exact ⟨by rw [← HI.out]; rfl, HB.out⟩
end Go.Proofs.YtchekgnacodolaaGreatDoor.X
end
section
namespace Go.Proofs.YtchekgnacodolaaGreatDoor.X
open Go.RowKit Go.Proofs.YtchekgnacodolaaGreatDoorW.PrintWords Go.Proofs.YtchekgnacodolaaGreatDoorW.PrintLast Go.Proofs.YtchekgnacodolaaGreatDoorW.PrintMore
set_option linter.unusedSimpArgs false
set_option linter.unusedVariables false
attribute [local go_sem] max2_int min2_int max_two min_two max_three min_three max_four min_four
set_option maxRecDepth 100000 in
set_option maxHeartbeats 4000000 in
theorem wrongFC (d : Df) (ho : okF d) (vd : Value) (w : World) (h : DfR w d vd) (hG : GQ w) :
    Calls Tryz.prog 124 #[vd] w fun e w' => e = .returned (.bool (wrongF d)) ∧ Below w.heap.size w w' := by
  obtain ⟨A, c, rfl, ht⟩ := h
  have hW := below_alloc (Below.refl w.heap.size w) (.cells (dfA d A c) 89)
  have O1 := Own.new w (dfA d A c) 89
  have KW := Lib.hid (prog_word.calls (d.f0.size + 1) d.f0 (wordB d.f0) _ (hG.below hW).g (word_eq2 d.f0 (Nat.le_trans ho.1 (by decide)) _ (by omega)))
  have KR := Lib.hid (fun W (hb : Below w.heap.size w W) => termRightC d.f1 _ W (ht.below hb) ho.2.1 ho.2.2 (hG.below hb).g (hG.below hb).t)
  have HF := Lib.hid (show wrongF d = (!wordB d.f0 || (!rightTm d.f1 || !(d.f1.f0 == 3))) from rfl)
  have HW := Lib.hid hW
  clear hW ht hG ho
  generalize wordB d.f0 = b1 at *
  generalize rightTm d.f1 = b2 at *
  have d0 := O1.cell 0
  have d1 := O1.cell 1
  have d2 := O1.cell 2
  have d3 := O1.cell 3
  have d4 := O1.cell 4
  go_enter Tryz.func124, Tryz.ntmps124
  cases b1 with
  | false =>
    go_wp2_with fail
    refine KW.out.mono ?_
    rintro e w1 ⟨rfl, hd⟩
    have HB := Lib.hid (HW.out.trans (hd.below.mono HW.out.size))
    clear hd
    go_wp2_with fail
    go_ret
    exact ⟨by rw [HF.out]; rfl, HB.out⟩
  | true =>
    go_wp2_with fail
    refine KW.out.mono ?_
    rintro e w1 ⟨rfl, hd⟩
    have hb := hd.below
    have O1 : Own _ _ _ _ := blk_below O1 hb
    have HB := Lib.hid (HW.out.trans (hb.mono HW.out.size))
    have KR := Lib.hid (KR.out w1 HB.out)
    have d0 := O1.cell 0
    have d1 := O1.cell 1
    have d2 := O1.cell 2
    have d3 := O1.cell 3
    have d4 := O1.cell 4
    clear hd hb
    cases b2 with
    | false =>
      go_wp2_with fail
      refine KR.out.mono ?_
      rintro e w2 ⟨rfl, hb⟩
      have HB := Lib.hid (HB.out.trans (hb.mono HB.out.size))
      clear hb
      go_wp2_with fail
      go_ret
      exact ⟨by rw [HF.out]; rfl, HB.out⟩
    | true =>
      go_wp2_with fail
      refine KR.out.mono ?_
      rintro e w2 ⟨rfl, hb⟩
      have O1 : Own _ _ _ _ := blk_below O1 hb
      have HB := Lib.hid (HB.out.trans (hb.mono HB.out.size))
      have d1 := O1.cell 1
      clear hb
      go_wp2_with fail
      go_ret
      exact ⟨by rw [HF.out]; rfl, HB.out⟩
set_option maxRecDepth 100000 in
set_option maxHeartbeats 4000000 in
theorem indexF (l : List Df) (ho : ∀ d ∈ l, okF d) (A : Option Addr) (c : Nat) (w : World) (hA : Kd.C k89 w A l.length l) (hG : GQ w) :
    Calls Tryz.prog 164 #[.slice A l.length c, .func (.func 124) #[] #[]] w fun e w' => ∃ i : Int, e = .returned (.int .i64 i) ∧ decide (0 ≤ i) = l.any wrongF ∧ Below w.heap.size w w' := by
  have HA := Lib.hid hA
  have hlen := hA.2.1
  have HG := Lib.hid hG
  have HO := Lib.hid ho
  clear hA hG ho
  go_enter Tryz.func164, Tryz.ntmps164
  go_wp2_with fail
  go_loopg [8] l.length (fun gk v8 wr => ∃ i : Nat, v8 = .int .i64 i ∧ i ≤ l.length ∧ gk = l.length - i ∧ Aside0 ((l.drop i).any wrongF = l.any wrongF) ∧ Aside0 (Below w.heap.size w wr))
  case atStart => exact ⟨0, rfl, by omega, by omega, ⟨rfl⟩, ⟨Below.refl _ _⟩⟩
  case round =>
    obtain ⟨i, rfl, hi, hgk, HS, HR⟩ := hrel
    by_cases hlt : i < l.length
    · have hdd : decide ((i : Int) < (l.length : Int)) = true := by rw [decide_eq_true_eq]; omega
      have p1 : (0 ≤ (i : Int)) = True := eq_true (by omega)
      have p2 : ((i : Int) < (l.length : Int)) = True := eq_true (by omega)
      obtain ⟨ad, A3, c3, rfl, a0, a1, a2, a3, a4, hx⟩ := DfR.at (Kd.C_below HA.out HR.out) i hlt
      have K := Lib.hid (wrongFC l[i] (HO.out _ (List.getElem_mem hlt)) _ wr hx (HG.out.below HR.out))
      have hs := any_drop wrongF l i hlt
      rw [HS.out] at hs
      have HS2 := Aside0.mk hs
      clear hs hx
      generalize l[i] = x at *
      cases hqx : wrongF x with
      | true =>
        rw [hqx] at K
        have HQX := Lib.hid hqx
        clear hqx
        go_wp2_with fail
        refine K.out.mono ?_
        rintro e w2 ⟨rfl, hb⟩
        have HB := Lib.hid (HR.out.trans (hb.mono HR.out.size))
        clear hb
        go_wp2_with fail
        go_ret
        exact ⟨i, rfl, by rw [HS2.out, HQX.out]; simp, HB.out⟩
      | false =>
        rw [hqx] at K
        have HQX := Lib.hid hqx
        clear hqx
        go_wp2_with fail
        refine K.out.mono ?_
        rintro e w2 ⟨rfl, hb⟩
        have HB := Aside0.mk (HR.out.trans (hb.mono HR.out.size))
        clear hb
        go_wp2_with fail
        go_roundg (l.length - (i + 1))
        case measure => omega
        case rel => exact ⟨i + 1, by go_num, by omega, rfl, ⟨by rw [HS2.out, HQX.out, Bool.false_or]⟩, HB⟩
    · have hdd : decide ((i : Int) < (l.length : Int)) = false := by rw [decide_eq_false_iff_not]; omega
      have hs := HS.out
      rw [List.drop_of_length_le (by omega)] at hs
      have HS2 := Lib.hid hs
      clear hs
      go_wp2_with fail
      go_ret
      exact ⟨-1, rfl, by rw [← HS2.out]; rfl, HR.out⟩
set_option maxRecDepth 100000 in
set_option maxHeartbeats 4000000 in
theorem hasF (l : List Df) (ho : ∀ d ∈ l, okF d) (A : Option Addr) (c : Nat) (w : World) (hA : Kd.C k89 w A l.length l) (hG : GQ w) :
    Calls Tryz.prog 123 #[.slice A l.length c, .func (.func 124) #[] #[]] w fun e w' => e = .returned (.bool (l.any wrongF)) ∧ Below w.heap.size w w' := by
  have HK := Lib.hid (indexF l ho A c w hA hG)
  clear ho hA hG
  go_enter Tryz.func123, Tryz.ntmps123
  go_wp2_with fail
  refine HK.out.mono ?_
  rintro e w1 ⟨i, rfl, hi, hb⟩
  have HI := Lib.hid hi
  have HB := Lib.hid hb
  clear hi hb
  go_wp2_with fail
  go_ret
  exact ⟨by rw [← HI.out]; rfl, HB.out⟩
structure OkP (p : Prg) : Prop where
  i : ∀ d ∈ p.f0, okD d
  c : ∀ d ∈ p.f1, okD d
  d : ∀ d ∈ p.f2, okF d
  n : namesT p.f3 = true
  s : sizeT p.f3 ≤ 9223372036854775807
abbrev pgA (p : Prg) (A0 : Option Addr) (c0 : Nat) (A1 : Option Addr) (c1 : Nat) (A2 : Option Addr) (c2 : Nat) (A3 : Option Addr) (c3 : Nat) : Array Value :=
  #[.slice A0 p.f0.length c0, .slice A1 p.f1.length c1, .slice A2 p.f2.length c2, .int .i64 p.f3.f0, .string p.f3.f1, .int .i64 p.f3.f2, .slice A3 p.f3.f3.length c3]
structure PgC (w : World) (p : Prg) (A0 : Option Addr) (c0 : Nat) (A1 : Option Addr) (c1 : Nat) (A2 : Option Addr) (c2 : Nat) (A3 : Option Addr) (c3 : Nat) : Prop where
  i : Kd.C k87 w A0 p.f0.length p.f0
  il : p.f0.length ≤ c0
  c : Kd.C k87 w A1 p.f1.length p.f1
  cl : p.f1.length ≤ c1
  d : Kd.C k89 w A2 p.f2.length p.f2
  dl : p.f2.length ≤ c2
  b : TmR w p.f3 (.agg #[.int .i64 p.f3.f0, .string p.f3.f1, .int .i64 p.f3.f2, .slice A3 p.f3.f3.length c3])
theorem PgC.below {w w1 : World} {p : Prg} {A0 A1 A2 A3 : Option Addr} {c0 c1 c2 c3 : Nat} (h : PgC w p A0 c0 A1 c1 A2 c2 A3 c3) (hb : Below w.heap.size w w1) : PgC w1 p A0 c0 A1 c1 A2 c2 A3 c3 :=
  ⟨Kd.C_below h.i hb, h.il, Kd.C_below h.c hb, h.cl, Kd.C_below h.d hb, h.dl, h.b.below hb⟩
set_option maxRecDepth 100000 in
set_option maxHeartbeats 4000000 in
theorem fitsC (p : Prg) (ho : OkP p) (A0 : Option Addr) (c0 : Nat) (A1 : Option Addr) (c1 : Nat) (A2 : Option Addr) (c2 : Nat) (A3 : Option Addr) (c3 : Nat) (w : World) (h : PgC w p A0 c0 A1 c1 A2 c2 A3 c3) (hG : GQ w) :
    Calls Tryz.prog 80 #[.agg (pgA p A0 c0 A1 c1 A2 c2 A3 c3)] w fun e w' => e = .returned (.bool (fitsP p)) ∧ Below w.heap.size w w' := by
  have hW := below_alloc (Below.refl w.heap.size w) (.cells (pgA p A0 c0 A1 c1 A2 c2 A3 c3) 64)
  have O1 := Own.new w (pgA p A0 c0 A1 c1 A2 c2 A3 c3) 64
  have K1 := fun W (hb : Below w.heap.size w W) => hasD 122 (.inr rfl) wrongD p.f0 (wrongDC _ ho.i) A0 c0 W (h.below hb).i (hG.below hb)
  have K2 := fun W (hb : Below w.heap.size w W) => hasD 120 (.inl rfl) (fun d => !(d.f2 == 0)) p.f0 (setC _) A0 c0 W (h.below hb).i (hG.below hb)
  have K3 := fun W (hb : Below w.heap.size w W) => hasD 122 (.inr rfl) wrongD p.f1 (wrongDC _ ho.c) A1 c1 W (h.below hb).c (hG.below hb)
  have K4 := fun W (hb : Below w.heap.size w W) => hasF p.f2 ho.d A2 c2 W (h.below hb).d (hG.below hb)
  have K5 := fun W (hb : Below w.heap.size w W) => termRightC p.f3 _ W (h.below hb).b ho.n ho.s (hG.below hb).g (hG.below hb).t
  have hF : fitsP p = (!(p.f0.any wrongD) && (!(p.f0.any fun d => !(d.f2 == 0)) && (!(p.f1.any wrongD) && (!(p.f2.any wrongF) && (decide (max (max p.f0.length p.f1.length) p.f2.length ≤ 32) && rightTm p.f3))))) := rfl
  generalize p.f0.any wrongD = b1 at *
  generalize (p.f0.any fun d => !(d.f2 == 0)) = b2 at *
  generalize p.f1.any wrongD = b3 at *
  generalize p.f2.any wrongF = b4 at *
  generalize rightTm p.f3 = b6 at *
  have K1 := Lib.hid (K1 _ hW)
  have K2 := Lib.hid K2
  have K3 := Lib.hid K3
  have K4 := Lib.hid K4
  have K5 := Lib.hid K5
  have HF := Lib.hid hF
  have HW := Lib.hid hW
  clear hW h hG ho hF
  have d0 := O1.cell 0
  have d1 := O1.cell 1
  have d2 := O1.cell 2
  have d3 := O1.cell 3
  have d4 := O1.cell 4
  have d5 := O1.cell 5
  have d6 := O1.cell 6
  go_enter Tryz.func80, Tryz.ntmps80
  go_wp2_with fail
  refine K1.out.mono ?_
  rintro e w1 ⟨rfl, hb⟩
  have O1 : Own _ _ _ _ := blk_below O1 hb
  have HB := Lib.hid (HW.out.trans (hb.mono HW.out.size))
  have d0 := O1.cell 0
  have d1 := O1.cell 1
  have d2 := O1.cell 2
  have d3 := O1.cell 3
  have d4 := O1.cell 4
  have d5 := O1.cell 5
  have d6 := O1.cell 6
  clear hb
  cases b1 with
  | true =>
    go_wp2_with fail
    go_ret
    exact ⟨by rw [HF.out]; rfl, HB.out⟩
  | false =>
    have K2 := Lib.hid (K2.out w1 HB.out)
    go_wp2_with fail
    refine K2.out.mono ?_
    rintro e w2 ⟨rfl, hb⟩
    have O1 : Own _ _ _ _ := blk_below O1 hb
    have HB := Lib.hid (HB.out.trans (hb.mono HB.out.size))
    have d0 := O1.cell 0
    have d1 := O1.cell 1
    have d2 := O1.cell 2
    have d3 := O1.cell 3
    have d4 := O1.cell 4
    have d5 := O1.cell 5
    have d6 := O1.cell 6
    clear hb
    cases b2 with
    | true =>
      go_wp2_with fail
      go_ret
      exact ⟨by rw [HF.out]; rfl, HB.out⟩
    | false =>
      have K3 := Lib.hid (K3.out w2 HB.out)
      go_wp2_with fail
      refine K3.out.mono ?_
      rintro e w3 ⟨rfl, hb⟩
      have O1 : Own _ _ _ _ := blk_below O1 hb
      have HB := Lib.hid (HB.out.trans (hb.mono HB.out.size))
      have d0 := O1.cell 0
      have d1 := O1.cell 1
      have d2 := O1.cell 2
      have d3 := O1.cell 3
      have d4 := O1.cell 4
      have d5 := O1.cell 5
      have d6 := O1.cell 6
      clear hb
      cases b3 with
      | true =>
        go_wp2_with fail
        go_ret
        exact ⟨by rw [HF.out]; rfl, HB.out⟩
      | false =>
        have K4 := Lib.hid (K4.out w3 HB.out)
        go_wp2_with fail
        refine K4.out.mono ?_
        rintro e w4 ⟨rfl, hb⟩
        have O1 : Own _ _ _ _ := blk_below O1 hb
        have HB := Lib.hid (HB.out.trans (hb.mono HB.out.size))
        have d0 := O1.cell 0
        have d1 := O1.cell 1
        have d2 := O1.cell 2
        have d3 := O1.cell 3
        have d4 := O1.cell 4
        have d5 := O1.cell 5
        have d6 := O1.cell 6
        clear hb
        cases b4 with
        | true =>
          go_wp2_with fail
          go_ret
          exact ⟨by rw [HF.out]; rfl, HB.out⟩
        | false =>
          have K5 := Lib.hid (K5.out w4 HB.out)
          by_cases hm : max (max p.f0.length p.f1.length) p.f2.length ≤ 32
          · have HM := Lib.hid hm
            have q0 : decide ((p.f0.length : Int) ≤ 32) = true := by rw [decide_eq_true_eq]; omega
            have q1 : decide ((p.f1.length : Int) ≤ 32) = true := by rw [decide_eq_true_eq]; omega
            have q2 : decide ((p.f2.length : Int) ≤ 32) = true := by rw [decide_eq_true_eq]; omega
            go_wp2_with fail
            all_goals first
              | (refine K5.out.mono ?_
                 rintro e w5 ⟨rfl, hb⟩
                 have HB := Lib.hid (HB.out.trans (hb.mono HB.out.size))
                 clear hb
                 go_wp2_with fail
                 go_ret
                 exact ⟨by rw [HF.out, decide_eq_true HM.out]; rfl, HB.out⟩)
              | (exfalso; omega)
          · have HM := Lib.hid hm
            go_wp2_with fail
            all_goals
              go_ret
              exact ⟨by rw [HF.out, decide_eq_false HM.out]; rfl, HB.out⟩
end Go.Proofs.YtchekgnacodolaaGreatDoor.X
end
section
namespace Go.Proofs.YtchekgnacodolaaGreatDoor.X
open Go.RowKit Go.Proofs.YtchekgnacodolaaGreatDoorW.PrintWords Go.Proofs.YtchekgnacodolaaGreatDoorW.PrintLast Go.Proofs.YtchekgnacodolaaGreatDoorW.PrintMore
set_option linter.unusedSimpArgs false
set_option linter.unusedVariables false
attribute [local go_sem] max2_int min2_int max_two min_two max_three min_three max_four min_four
theorem word16 {nm : ByteArray} (h : wordB nm = true) : nm.size ≤ 16 := right_size (right_name h)
theorem itoa16 {n : Int} (h0 : 0 ≤ n) (h1 : n < 2147483648) : (itoaF n).length ≤ 16 := by
  rw [itoaF_dec h0 h1, dec_F _ (by omega)]
  exact Nat.le_trans (decF_len _ _) (by decide)
theorem itoaC (n : Int) (h0 : 0 ≤ n) (h1 : n < 2147483648) (w : World) (hG : GL w) :
    Calls Tryz.prog 81 #[.int .i64 n, .int .i64 10] w fun e w' => e = .returned (.string (B (itoaF n))) ∧ Below w.heap.size w w' := by
  refine (Tryz.strconv_FormatInt_10 n (by omega) (by omega) w hG.pow).mono ?_
  rintro e w2 ⟨rfl, k, os, hw⟩
  refine ⟨?_, by rw [hw]; exact Lib.below_grow _ _ (Nat.le_refl _) _ _⟩
  rw [itoaF_eq n (by omega) (by omega)]; rfl
theorem lines_len {α : Type} (f : α → List UInt8) (n : Nat) : ∀ l : List α, (∀ x ∈ l, (f x).length ≤ n) → ((l.map f).flatten).length ≤ l.length * n
  | [], _ => by simp
  | x :: l, h => by
    have h1 := h x (by simp)
    have h2 := lines_len f n l fun y hy => h y (by simp [hy])
    simp only [List.map_cons, List.flatten_cons, List.length_append, List.length_cons, Nat.add_mul]
    omega
theorem lines_step {α : Type} (f : α → List UInt8) (l : List α) (i : Nat) (h : i < l.length) : ((l.take (i + 1)).map f).flatten = ((l.take i).map f).flatten ++ f l[i] := by
  rw [List.take_succ_eq_append_getElem h, List.map_append, List.flatten_append, List.map_cons, List.map_nil, List.flatten_cons, List.flatten_nil, List.append_nil]
theorem joinI (S : List UInt8) (x : Dl) : B S ++ (⟨#[105, 110, 112, 117, 116, 32]⟩ ++ x.f0 ++ ⟨#[32, 58, 32]⟩ ++ x.f1 ++ ⟨#[32, 46, 10]⟩) = B (S ++ lineI x) := by
  obtain ⟨a, b, n⟩ := x
  rw [show a = B a.data.toList from (B_of a).symm, show b = B b.data.toList from (B_of b).symm, show (⟨#[105, 110, 112, 117, 116, 32]⟩ : ByteArray) = B [105, 110, 112, 117, 116, 32] from rfl, show (⟨#[32, 58, 32]⟩ : ByteArray) = B [32, 58, 32] from rfl, show (⟨#[32, 46, 10]⟩ : ByteArray) = B [32, 46, 10] from rfl]
  simp only [B_append]
  unfold lineI; simp [B]
theorem joinC (S : List UInt8) (x : Dl) : B S ++ (⟨#[99, 101, 108, 108, 32]⟩ ++ x.f0 ++ ⟨#[32, 58, 32]⟩ ++ x.f1 ++ ⟨#[32, 61, 32]⟩ ++ B (itoaF x.f2) ++ ⟨#[32, 46, 10]⟩) = B (S ++ lineC x) := by
  obtain ⟨a, b, n⟩ := x
  rw [show a = B a.data.toList from (B_of a).symm, show b = B b.data.toList from (B_of b).symm, show (⟨#[99, 101, 108, 108, 32]⟩ : ByteArray) = B [99, 101, 108, 108, 32] from rfl, show (⟨#[32, 58, 32]⟩ : ByteArray) = B [32, 58, 32] from rfl, show (⟨#[32, 61, 32]⟩ : ByteArray) = B [32, 61, 32] from rfl, show (⟨#[32, 46, 10]⟩ : ByteArray) = B [32, 46, 10] from rfl]
  simp only [B_append]
  unfold lineC; simp [B]
theorem joinD (S : List UInt8) (x : Df) : B S ++ (⟨#[100, 101, 102, 32]⟩ ++ x.f0 ++ ⟨#[32, 61, 32]⟩ ++ B (printL (toksT x.f1)) ++ ⟨#[32, 46, 10]⟩) = B (S ++ lineD x) := by
  obtain ⟨a, t⟩ := x
  rw [show a = B a.data.toList from (B_of a).symm, show (⟨#[100, 101, 102, 32]⟩ : ByteArray) = B [100, 101, 102, 32] from rfl, show (⟨#[32, 61, 32]⟩ : ByteArray) = B [32, 61, 32] from rfl, show (⟨#[32, 46, 10]⟩ : ByteArray) = B [32, 46, 10] from rfl]
  simp only [B_append]
  unfold lineD; simp [B]
structure FitP (p : Prg) : Prop where
  i : ∀ x ∈ p.f0, x.f0.size ≤ 16 ∧ x.f1.size ≤ 16
  c : ∀ x ∈ p.f1, x.f0.size ≤ 16 ∧ x.f1.size ≤ 16 ∧ 0 ≤ x.f2 ∧ x.f2 < 2147483648
  d : ∀ x ∈ p.f2, x.f0.size ≤ 16 ∧ rightTm x.f1 = true
  l : p.f0.length ≤ 32 ∧ p.f1.length ≤ 32 ∧ p.f2.length ≤ 32
  b : rightTm p.f3 = true
theorem any_no {α : Type} {q : α → Bool} {l : List α} (h : l.any q = false) : ∀ x ∈ l, q x = false := fun x hx => by
  cases hq : q x with
  | false => rfl
  | true => rw [List.any_eq_true.2 ⟨x, hx, hq⟩] at h; cases h
theorem wrong_no {x : Dl} (h : wrongD x = false) : wordB x.f0 = true ∧ wordB x.f1 = true ∧ 0 ≤ x.f2 ∧ x.f2 < 2147483648 := by
  unfold wrongD at h
  simp only [Bool.or_eq_false_iff, Bool.not_eq_false', decide_eq_false_iff_not] at h
  exact ⟨h.1, h.2.1, by omega, by omega⟩
theorem fits_of {p : Prg} (h : fitsP p = true) : FitP p := by
  unfold fitsP at h
  simp only [Bool.and_eq_true, Bool.not_eq_true', decide_eq_true_eq] at h
  obtain ⟨h1, h2, h3, h4, h5, h6⟩ := h
  refine ⟨fun x hx => ?_, fun x hx => ?_, fun x hx => ?_, by omega, h6⟩
  · have := wrong_no (any_no h1 x hx)
    exact ⟨word16 this.1, word16 this.2.1⟩
  · have := wrong_no (any_no h3 x hx)
    exact ⟨word16 this.1, word16 this.2.1, this.2.2⟩
  · have := any_no h4 x hx
    unfold wrongF at this
    simp only [Bool.or_eq_false_iff, Bool.not_eq_false'] at this
    exact ⟨word16 this.1, this.2.1⟩
theorem lenI {x : Dl} (h : x.f0.size ≤ 16 ∧ x.f1.size ≤ 16) : (lineI x).length ≤ 60 := by
  rw [size_len, size_len] at h
  unfold lineI; simp only [List.length_append, List.length_cons, List.length_nil]; omega
theorem lenC {x : Dl} (h : x.f0.size ≤ 16 ∧ x.f1.size ≤ 16 ∧ 0 ≤ x.f2 ∧ x.f2 < 2147483648) : (lineC x).length ≤ 80 := by
  have := itoa16 h.2.2.1 h.2.2.2
  rw [size_len, size_len] at h
  unfold lineC; simp only [List.length_append, List.length_cons, List.length_nil]; omega
theorem lenD {x : Df} (h : x.f0.size ≤ 16 ∧ rightTm x.f1 = true) : (lineD x).length ≤ 1020050 := by
  have := (show_right h.2).2.2
  rw [size_len] at h
  unfold lineD; simp only [List.length_append, List.length_cons, List.length_nil]; omega
theorem showRC (t : Tm) (hr : rightTm t = true) (hn : namesT t = true) (vt : Value) (w : World) (h : TmR w t vt) (hG : GQ w) :
    Calls Tryz.prog 29 #[vt] w fun e w' => e = .returned (.string (B (printL (toksT t)))) ∧ Below w.heap.size w w' := by
  have h1 := showC t vt w h hn (Nat.le_trans (right_nodes hr).2.2 (by decide)) hG.g hG.t
  rw [show showS t = printL (toksT t) by unfold showS; rw [if_pos hr]] at h1
  exact h1
set_option maxRecDepth 100000 in
set_option maxHeartbeats 8000000 in
theorem prgPrintC (p : Prg) (ho : OkP p) (A0 : Option Addr) (c0 : Nat) (A1 : Option Addr) (c1 : Nat) (A2 : Option Addr) (c2 : Nat) (A3 : Option Addr) (c3 : Nat) (w : World) (h : PgC w p A0 c0 A1 c1 A2 c2 A3 c3) (hG : GQ w) :
    Calls Tryz.prog 47 #[.agg (pgA p A0 c0 A1 c1 A2 c2 A3 c3)] w fun e w' => e = .returned (.string (B (printP p))) ∧ Below w.heap.size w w' := by
  have hW := below_alloc (Below.refl w.heap.size w) (.cells (pgA p A0 c0 A1 c1 A2 c2 A3 c3) 64)
  have O1 := Own.new w (pgA p A0 c0 A1 c1 A2 c2 A3 c3) 64
  have K1 := fitsC p ho A0 c0 A1 c1 A2 c2 A3 c3 _ (h.below hW) (hG.below hW)
  have HW := Lib.hid hW
  have HG := Lib.hid hG
  have HC := Lib.hid h
  have HO := Lib.hid ho
  clear hW hG h ho
  have d0 := O1.cell 0
  have d1 := O1.cell 1
  have d2 := O1.cell 2
  have d3 := O1.cell 3
  have d4 := O1.cell 4
  have d5 := O1.cell 5
  have d6 := O1.cell 6
  cases hf : fitsP p with
  | false =>
    rw [hf] at K1
    have HF := Lib.hid hf
    have K1 := Lib.hid K1
    clear hf
    go_enter Tryz.func47, Tryz.ntmps47
    go_wp2_with fail
    refine K1.out.mono ?_
    rintro e w1 ⟨rfl, hb⟩
    have HB := Lib.hid (HW.out.trans (hb.mono HW.out.size))
    clear hb
    go_wp2_with fail
    go_ret
    exact ⟨by unfold printP; rw [if_neg (by rw [HF.out]; decide)]; rfl, HB.out⟩
  | true =>
    rw [hf] at K1
    have FP := Lib.hid (fits_of hf)
    have HF := Lib.hid (show printP p = if (linesP p).length ≤ 65536 then linesP p else [] by unfold printP; rw [if_pos hf])
    have K1 := Lib.hid K1
    clear hf
    go_enter Tryz.func47, Tryz.ntmps47
    go_wp2_with fail
    refine K1.out.mono ?_
    rintro e w1 ⟨rfl, hb⟩
    have O1 : Own _ _ _ _ := blk_below O1 hb
    have HB := Lib.hid (HW.out.trans (hb.mono HW.out.size))
    have d0 := O1.cell 0
    have d1 := O1.cell 1
    have d2 := O1.cell 2
    have d3 := O1.cell 3
    have d4 := O1.cell 4
    have d5 := O1.cell 5
    have d6 := O1.cell 6
    clear hb
    go_wp2_with fail
    have HN := Lib.hid FP.out.l
    go_loopg [3, 16] p.f0.length (fun gk v3 vi wr => ∃ (i : Nat) (S : ByteArray), vi = .int .i64 i ∧ v3 = .string S ∧ i ≤ p.f0.length ∧ gk = p.f0.length - i ∧ Aside0 (S = B (((p.f0.take i).map lineI).flatten)) ∧ Aside0 (Below w1.heap.size w1 wr))
    case atStart => exact ⟨0, _, rfl, rfl, by omega, by omega, ⟨by simp; rfl⟩, ⟨Below.refl _ _⟩⟩
    case round =>
      obtain ⟨i, S, rfl, rfl, hi, hgk, HS, HR⟩ := hrel
      by_cases hlt : i < p.f0.length
      · have hdd : decide ((i : Int) < (p.f0.length : Int)) = true := by rw [decide_eq_true_eq]; omega
        have hn0 := HN.out
        have p1 : (0 ≤ (i : Int)) = True := eq_true (by omega)
        have p2 : ((i : Int) < (p.f0.length : Int)) = True := eq_true (by omega)
        obtain ⟨ad, rfl, a0, a1, a2⟩ := Dl.at (Kd.C_below HC.out.i (HB.out.trans (HR.out.mono HB.out.size))) i hlt
        have hx := FP.out.i _ (List.getElem_mem hlt)
        have hS : S.size ≤ 32 * 60 := by
          have h1 := lines_len lineI 60 (p.f0.take i) fun x hx => lenI (FP.out.i x (List.mem_of_mem_take hx))
          have h2 := HN.out.1
          rw [HS.out, B_size]; rw [List.length_take] at h1; omega
        have hst := lines_step lineI p.f0 i hlt
        have HST := Aside0.mk (show B (((p.f0.take i).map lineI).flatten) ++ (⟨#[105, 110, 112, 117, 116, 32]⟩ ++ p.f0[i].f0 ++ ⟨#[32, 58, 32]⟩ ++ p.f0[i].f1 ++ ⟨#[32, 46, 10]⟩) = B (((p.f0.take (i + 1)).map lineI).flatten) by rw [hst]; exact joinI _ _)
        clear hst
        generalize p.f0[i] = x at *
        have X := Own.new wr (dlA x) 87
        have x0 := X.cell 0
        have x1 := X.cell 1
        have x2 := X.cell 2
        have z1 : (9223372036854775807 < 6 + x.f0.size) = False := eq_false (by omega)
        have z2 : (9223372036854775807 < 6 + x.f0.size + 3) = False := eq_false (by omega)
        have z3 : (9223372036854775807 < 6 + x.f0.size + 3 + x.f1.size) = False := eq_false (by omega)
        have z4 : (9223372036854775807 < 6 + x.f0.size + 3 + x.f1.size + 3) = False := eq_false (by omega)
        have z5 : (9223372036854775807 < S.size + (6 + x.f0.size + 3 + x.f1.size + 3)) = False := eq_false (by omega)
        go_wp2_with fail
        go_roundg (p.f0.length - (i + 1))
        case measure => omega
        case rel => exact ⟨i + 1, _, by go_num, rfl, by omega, rfl, ⟨by rw [HS.out]; exact HST.out⟩, ⟨below_alloc HR.out _⟩⟩
      · have hdd : decide ((i : Int) < (p.f0.length : Int)) = false := by rw [decide_eq_false_iff_not]; omega
        obtain ⟨s1, hs1⟩ : ∃ s, (p.f0.map lineI).flatten = s := ⟨_, rfl⟩
        have HS1 := Lib.hid hs1
        have hl1 : s1.length ≤ 32 * 60 := by
          have h1 := lines_len lineI 60 p.f0 fun x hx => lenI (FP.out.i x hx)
          have h2 := HN.out.1
          rw [hs1] at h1; omega
        have HS := Lib.hid (show S = B s1 by rw [HS.out, List.take_of_length_le (by omega), hs1])
        have HB := Lib.hid (HB.out.trans (HR.out.mono HB.out.size))
        have O1 : Own _ _ _ _ := blk_below O1 HR.out
        have d0 := O1.cell 0
        have d1 := O1.cell 1
        have d2 := O1.cell 2
        have d3 := O1.cell 3
        have d4 := O1.cell 4
        have d5 := O1.cell 5
        have d6 := O1.cell 6
        clear hs1 hgk HR
        go_wp2_with fail
        generalize wr = wA at *
        go_loopg [3, 34] p.f1.length (fun gk v3 vi wx => ∃ (i : Nat) (S : ByteArray), vi = .int .i64 i ∧ v3 = .string S ∧ i ≤ p.f1.length ∧ gk = p.f1.length - i ∧ Aside0 (S = B (s1 ++ ((p.f1.take i).map lineC).flatten)) ∧ Aside0 (Below wA.heap.size wA wx))
        case atStart => exact ⟨0, _, rfl, rfl, by omega, by omega, ⟨by rw [HS.out]; simp⟩, ⟨Below.refl _ _⟩⟩
        case round =>
          clear HS
          obtain ⟨i, S, rfl, rfl, hi, hgk, HS, HR⟩ := hrel
          by_cases hlt : i < p.f1.length
          · have hdd : decide ((i : Int) < (p.f1.length : Int)) = true := by rw [decide_eq_true_eq]; omega
            have hn0 := HN.out
            have p1 : (0 ≤ (i : Int)) = True := eq_true (by omega)
            have p2 : ((i : Int) < (p.f1.length : Int)) = True := eq_true (by omega)
            have hbq := HB.out.trans (HR.out.mono HB.out.size)
            obtain ⟨ad, rfl, a0, a1, a2⟩ := Dl.at (Kd.C_below HC.out.c hbq) i hlt
            have hx := FP.out.c _ (List.getElem_mem hlt)
            have hS : S.size ≤ 32 * 60 + 32 * 80 := by
              have h1 := lines_len lineC 80 (p.f1.take i) fun x hx => lenC (FP.out.c x (List.mem_of_mem_take hx))
              have h2 := HN.out.2.1
              rw [HS.out, B_size, List.length_append]; rw [List.length_take] at h1; omega
            have hst := lines_step lineC p.f1 i hlt
            have HST := Aside0.mk (show B (s1 ++ ((p.f1.take i).map lineC).flatten) ++ (⟨#[99, 101, 108, 108, 32]⟩ ++ p.f1[i].f0 ++ ⟨#[32, 58, 32]⟩ ++ p.f1[i].f1 ++ ⟨#[32, 61, 32]⟩ ++ B (itoaF p.f1[i].f2) ++ ⟨#[32, 46, 10]⟩) = B (s1 ++ ((p.f1.take (i + 1)).map lineC).flatten) by rw [hst, ← List.append_assoc]; exact joinC _ _)
            clear hst
            generalize p.f1[i] = x at *
            have hbd := below_drew (below_alloc (Below.refl wr.heap.size wr) (.cells (dlA x) 87))
            have X : Own (wr.alloc (.cells (dlA x) 87)).drew wr.heap.size (dlA x) 87 := Own.new wr (dlA x) 87
            have x0 := (Own.new wr (dlA x) 87).cell 0
            have x1 := (Own.new wr (dlA x) 87).cell 1
            have x2 := (Own.new wr (dlA x) 87).cell 2
            have KI := Lib.hid (itoaC x.f2 hx.2.2.1 hx.2.2.2 (wr.alloc (.cells (dlA x) 87)).drew (HG.out.below (hbq.trans (hbd.mono hbq.size))).g)
            have hil := itoa16 hx.2.2.1 hx.2.2.2
            have hbs : (B (itoaF x.f2)).size = (itoaF x.f2).length := B_size _
            generalize B (itoaF x.f2) = q at *
            have z1 : (9223372036854775807 < 5 + x.f0.size) = False := eq_false (by omega)
            have z2 : (9223372036854775807 < 5 + x.f0.size + 3) = False := eq_false (by omega)
            have z3 : (9223372036854775807 < 5 + x.f0.size + 3 + x.f1.size) = False := eq_false (by omega)
            have z4 : (9223372036854775807 < 5 + x.f0.size + 3 + x.f1.size + 3) = False := eq_false (by omega)
            have z5 : (9223372036854775807 < 5 + x.f0.size + 3 + x.f1.size + 3 + q.size) = False := eq_false (by omega)
            have z6 : (9223372036854775807 < 5 + x.f0.size + 3 + x.f1.size + 3 + q.size + 3) = False := eq_false (by omega)
            have z7 : (9223372036854775807 < S.size + (5 + x.f0.size + 3 + x.f1.size + 3 + q.size + 3)) = False := eq_false (by omega)
            have HBD := Lib.hid hbd
            clear hbd hbq hbs hil hx
            go_wp2_with fail
            go_region_held3 (fun w' => w'.cell? ⟨wr.heap.size, 0, none⟩ = some (.string x.f0) ∧ w'.cell? ⟨wr.heap.size, 1, none⟩ = some (.string x.f1) ∧ w'.cell? ⟨wr.heap.size, 2, none⟩ = some (.int .i64 x.f2)) (go_keep)
              ((go_at_call 81; refine KI.out.mono ?_; rintro e w3 ⟨rfl, hb⟩; have X3 : Own _ _ _ _ := blk_below X hb; have x0 := X3.cell 0; have x1 := X3.cell 1; have x2 := X3.cell 2))
            have HR3 := Aside0.mk ((HR.out.trans (HBD.out.mono HR.out.size)).trans (hb.mono (HR.out.trans (HBD.out.mono HR.out.size)).size))
            clear hb X3 X
            go_wp2_with fail
            go_roundg (p.f1.length - (i + 1))
            case measure => omega
            case rel => exact ⟨i + 1, _, by go_num, rfl, by omega, rfl, ⟨by rw [HS.out]; exact HST.out⟩, HR3⟩
          · have hdd : decide ((i : Int) < (p.f1.length : Int)) = false := by rw [decide_eq_false_iff_not]; omega
            obtain ⟨s2, hs2⟩ : ∃ s, s1 ++ (p.f1.map lineC).flatten = s := ⟨_, rfl⟩
            have HS2 := Lib.hid hs2
            have hl2 : s2.length ≤ 32 * 60 + 32 * 80 := by
              have h1 := lines_len lineC 80 p.f1 fun x hx => lenC (FP.out.c x hx)
              have h2 := HN.out.2.1
              rw [← hs2, List.length_append]; omega
            have HS := Lib.hid (show S = B s2 by rw [HS.out, List.take_of_length_le (by omega), hs2])
            have HB := Lib.hid (HB.out.trans (HR.out.mono HB.out.size))
            have O1 : Own _ _ _ _ := blk_below O1 HR.out
            have d0 := O1.cell 0
            have d1 := O1.cell 1
            have d2 := O1.cell 2
            have d3 := O1.cell 3
            have d4 := O1.cell 4
            have d5 := O1.cell 5
            have d6 := O1.cell 6
            clear hs2 hgk HR
            go_wp2_with fail
            generalize wr = wB at *
            go_loopg [3, 57] p.f2.length (fun gk v3 vi wx => ∃ (i : Nat) (S : ByteArray), vi = .int .i64 i ∧ v3 = .string S ∧ i ≤ p.f2.length ∧ gk = p.f2.length - i ∧ Aside0 (S = B (s2 ++ ((p.f2.take i).map lineD).flatten)) ∧ Aside0 (Below wB.heap.size wB wx))
            case atStart => exact ⟨0, _, rfl, rfl, by omega, by omega, ⟨by rw [HS.out]; simp⟩, ⟨Below.refl _ _⟩⟩
            case round =>
              clear HS
              obtain ⟨i, S, rfl, rfl, hi, hgk, HS, HR⟩ := hrel
              by_cases hlt : i < p.f2.length
              · have hdd : decide ((i : Int) < (p.f2.length : Int)) = true := by rw [decide_eq_true_eq]; omega
                have hn0 := HN.out
                have p1 : (0 ≤ (i : Int)) = True := eq_true (by omega)
                have p2 : ((i : Int) < (p.f2.length : Int)) = True := eq_true (by omega)
                have hbq := HB.out.trans (HR.out.mono HB.out.size)
                obtain ⟨ad, B3, b3, rfl, a0, a1, a2, a3, a4, hv⟩ := DfR.at (Kd.C_below HC.out.d hbq) i hlt
                have hx := FP.out.d _ (List.getElem_mem hlt)
                have hn := (HO.out.d _ (List.getElem_mem hlt)).2.1
                have hS : S.size ≤ 32 * 60 + 32 * 80 + 32 * 1020050 := by
                  have h1 := lines_len lineD 1020050 (p.f2.take i) fun x hx => lenD (FP.out.d x (List.mem_of_mem_take hx))
                  have h2 := HN.out.2.2
                  rw [HS.out, B_size, List.length_append]; rw [List.length_take] at h1; omega
                have hst := lines_step lineD p.f2 i hlt
                have HST := Aside0.mk (show B (s2 ++ ((p.f2.take i).map lineD).flatten) ++ (⟨#[100, 101, 102, 32]⟩ ++ p.f2[i].f0 ++ ⟨#[32, 61, 32]⟩ ++ B (printL (toksT p.f2[i].f1)) ++ ⟨#[32, 46, 10]⟩) = B (s2 ++ ((p.f2.take (i + 1)).map lineD).flatten) by rw [hst, ← List.append_assoc]; exact joinD _ _)
                clear hst
                generalize p.f2[i] = x at *
                have hbd := below_drew (below_alloc (Below.refl wr.heap.size wr) (.cells (dfA x B3 b3) 89))
                have X : Own (wr.alloc (.cells (dfA x B3 b3) 89)).drew wr.heap.size (dfA x B3 b3) 89 := Own.new wr (dfA x B3 b3) 89
                have x0 := (Own.new wr (dfA x B3 b3) 89).cell 0
                have x1 := (Own.new wr (dfA x B3 b3) 89).cell 1
                have x2 := (Own.new wr (dfA x B3 b3) 89).cell 2
                have x3 := (Own.new wr (dfA x B3 b3) 89).cell 3
                have x4 := (Own.new wr (dfA x B3 b3) 89).cell 4
                have hvt : TmR wr x.f1 (.agg #[.int .i64 x.f1.f0, .string x.f1.f1, .int .i64 x.f1.f2, .slice B3 x.f1.f3.length b3]) := by
                  obtain ⟨A', c', e', ht⟩ := hv
                  simp only [dfA, Value.agg.injEq, Array.mk.injEq, List.cons.injEq, Value.slice.injEq, true_and, and_true] at e'
                  obtain ⟨rfl, rfl⟩ := e'
                  exact ht
                have KI := Lib.hid (showRC x.f1 hx.2 hn _ (wr.alloc (.cells (dfA x B3 b3) 89)).drew (hvt.below hbd) (HG.out.below (hbq.trans (hbd.mono hbq.size))))
                have hil := (show_right hx.2).2.2
                have hbs : (B (printL (toksT x.f1))).size = (printL (toksT x.f1)).length := B_size _
                generalize B (printL (toksT x.f1)) = q at *
                have z1 : (9223372036854775807 < 4 + x.f0.size) = False := eq_false (by omega)
                have z2 : (9223372036854775807 < 4 + x.f0.size + 3) = False := eq_false (by omega)
                have z3 : (9223372036854775807 < 4 + x.f0.size + 3 + q.size) = False := eq_false (by omega)
                have z4 : (9223372036854775807 < 4 + x.f0.size + 3 + q.size + 3) = False := eq_false (by omega)
                have z5 : (9223372036854775807 < S.size + (4 + x.f0.size + 3 + q.size + 3)) = False := eq_false (by omega)
                have HBD := Lib.hid hbd
                clear hbd hbq hbs hil hx hn hv hvt
                go_wp2_with fail
                go_region_held3 (fun w' => w'.cell? ⟨wr.heap.size, 0, none⟩ = some (.string x.f0) ∧ w'.cell? ⟨wr.heap.size, 1, none⟩ = some (.int .i64 x.f1.f0) ∧ w'.cell? ⟨wr.heap.size, 2, none⟩ = some (.string x.f1.f1) ∧ w'.cell? ⟨wr.heap.size, 3, none⟩ = some (.int .i64 x.f1.f2) ∧ w'.cell? ⟨wr.heap.size, 4, none⟩ = some (.slice B3 x.f1.f3.length b3)) (go_keep)
                  ((go_at_call 29; refine KI.out.mono ?_; rintro e w3 ⟨rfl, hb⟩; have X3 : Own _ _ _ _ := blk_below X hb; have x0 := X3.cell 0; have x1 := X3.cell 1; have x2 := X3.cell 2; have x3 := X3.cell 3; have x4 := X3.cell 4))
                have HR3 := Aside0.mk ((HR.out.trans (HBD.out.mono HR.out.size)).trans (hb.mono (HR.out.trans (HBD.out.mono HR.out.size)).size))
                clear hb X3 X
                go_wp2_with fail
                go_roundg (p.f2.length - (i + 1))
                case measure => omega
                case rel => exact ⟨i + 1, _, by go_num, rfl, by omega, rfl, ⟨by rw [HS.out]; exact HST.out⟩, HR3⟩
              · have hdd : decide ((i : Int) < (p.f2.length : Int)) = false := by rw [decide_eq_false_iff_not]; omega
                obtain ⟨s3, hs3⟩ : ∃ s, s2 ++ (p.f2.map lineD).flatten = s := ⟨_, rfl⟩
                have hl3 : s3.length ≤ 32 * 60 + 32 * 80 + 32 * 1020050 := by
                  have h1 := lines_len lineD 1020050 p.f2 fun x hx => lenD (FP.out.d x hx)
                  have h2 := HN.out.2.2
                  rw [← hs3, List.length_append]; omega
                have HS := Lib.hid (show S = B s3 by rw [HS.out, List.take_of_length_le (by omega), hs3])
                have HB := Lib.hid (HB.out.trans (HR.out.mono HB.out.size))
                have hSS : S.size = s3.length := by rw [HS.out, B_size]
                have O1 : Own _ _ _ _ := blk_below O1 HR.out
                have KI := Lib.hid (showRC p.f3 FP.out.b HO.out.n _ wr (HC.out.below HB.out).b (HG.out.below HB.out))
                have hil := (show_right FP.out.b).2.2
                have HQ := Lib.hid (show linesP p = s3 ++ printL (toksT p.f3) ++ [10] by unfold linesP; rw [HS1.out, HS2.out, hs3])
                have hbs : (B (printL (toksT p.f3))).size = (printL (toksT p.f3)).length := B_size _
                obtain ⟨q, hq⟩ : ∃ q, B (printL (toksT p.f3)) = q := ⟨_, rfl⟩
                rw [hq] at KI hbs
                have HQQ := Lib.hid hq
                have z1 : (9223372036854775807 < q.size + 1) = False := eq_false (by omega)
                have z2 : (9223372036854775807 < S.size + (q.size + 1)) = False := eq_false (by omega)
                have HLL := Lib.hid (show (linesP p).length = S.size + (q.size + 1) by rw [HQ.out, hbs, hSS]; simp only [List.length_append, List.length_cons, List.length_nil]; omega)
                have HFIN := Lib.hid (show S ++ (q ++ ⟨#[10]⟩) = B (linesP p) by rw [HQ.out, HS.out, ← hq, show (⟨#[10]⟩ : ByteArray) = B [10] from rfl, B_append, B_append, ← List.append_assoc])
                have d0 := O1.cell 0
                have d1 := O1.cell 1
                have d2 := O1.cell 2
                have d3 := O1.cell 3
                have d4 := O1.cell 4
                have d5 := O1.cell 5
                have d6 := O1.cell 6
                clear hs3 hgk HR hbs hil hSS hq
                go_wp2_with fail
                refine KI.out.mono ?_
                rintro e w5 ⟨rfl, hb⟩
                have HB := Lib.hid (HB.out.trans (hb.mono HB.out.size))
                clear hb
                by_cases hz : 65536 < S.size + (q.size + 1)
                · have hz1 : decide (65536 < S.size + (q.size + 1)) = true := by simpa using hz
                  have hz2 : decide (65536 < (S.size : Int) + ((q.size : Int) + 1)) = true := by rw [decide_eq_true_eq]; omega
                  have HZ := Lib.hid hz
                  go_wp2_with fail
                  go_ret
                  exact ⟨by rw [HF.out, if_neg (by rw [HLL.out]; have := HZ.out; omega)]; rfl, HB.out⟩
                · have hz1 : decide (65536 < S.size + (q.size + 1)) = false := by simpa using hz
                  have hz2 : decide (65536 < (S.size : Int) + ((q.size : Int) + 1)) = false := by rw [decide_eq_false_iff_not]; omega
                  have HZ := Lib.hid hz
                  go_wp2_with fail
                  go_ret
                  exact ⟨by rw [HF.out, if_pos (by rw [HLL.out]; have := HZ.out; omega), ← HFIN.out]; rfl, HB.out⟩
theorem B_ne (l : List UInt8) : (!(B l).toList.isEmpty) = decide (l ≠ []) := by
  rw [ByteArray.toList_eq, B_list]
  cases l <;> simp
set_option maxRecDepth 100000 in
set_option maxHeartbeats 8000000 in
theorem prgRightC (p : Prg) (ho : OkP p) (A0 : Option Addr) (c0 : Nat) (A1 : Option Addr) (c1 : Nat) (A2 : Option Addr) (c2 : Nat) (A3 : Option Addr) (c3 : Nat) (w : World) (h : PgC w p A0 c0 A1 c1 A2 c2 A3 c3) (hG : GQ w) :
    Calls Tryz.prog 43 #[.agg (pgA p A0 c0 A1 c1 A2 c2 A3 c3)] w fun e w' => e = .returned (.bool (decide (printP p ≠ []))) ∧ Below w.heap.size w w' := by
  have hW := below_alloc (Below.refl w.heap.size w) (.cells (pgA p A0 c0 A1 c1 A2 c2 A3 c3) 64)
  have O1 := Own.new w (pgA p A0 c0 A1 c1 A2 c2 A3 c3) 64
  have K1 := prgPrintC p ho A0 c0 A1 c1 A2 c2 A3 c3 _ (h.below hW) (hG.below hW)
  have HB := Lib.hid (B_ne (printP p))
  have HW := Lib.hid hW
  clear hW hG h ho
  generalize printP p = q at *
  have K1 := Lib.hid K1
  have d0 := O1.cell 0
  have d1 := O1.cell 1
  have d2 := O1.cell 2
  have d3 := O1.cell 3
  have d4 := O1.cell 4
  have d5 := O1.cell 5
  have d6 := O1.cell 6
  go_enter Tryz.func43, Tryz.ntmps43
  go_wp2_with fail
  refine K1.out.mono ?_
  rintro e w1 ⟨rfl, hb⟩
  have HC := Lib.hid (HW.out.trans (hb.mono HW.out.size))
  clear hb
  go_wp2_with fail
  go_ret
  exact ⟨by rw [← HB.out]; rfl, HC.out⟩
end Go.Proofs.YtchekgnacodolaaGreatDoor.X
end
section
namespace Go.Proofs.YtchekgnacodolaaGreatDoor.X
open Go.RowKit Go.Proofs.YtchekgnacodolaaGreatDoorW.PrintWords Go.Proofs.YtchekgnacodolaaGreatDoorW.PrintLast Go.Proofs.YtchekgnacodolaaGreatDoorW.PrintMore
set_option linter.unusedSimpArgs false
set_option linter.unusedVariables false
set_option maxRecDepth 100000 in
set_option maxHeartbeats 4000000 in
theorem sameFD (a b : Df) (va vb : Value) (w : World) (ha : DfR w a va) (hb : DfR w b vb) :
    Calls Tryz.prog 78 #[va, vb] w fun e w' => e = .returned (.bool (sameF a b)) ∧ Below w.heap.size w w' := by
  obtain ⟨A, c, rfl, ha⟩ := ha
  obtain ⟨A', c', rfl, hb⟩ := hb
  have hW := below_alloc (below_alloc (Below.refl w.heap.size w) (.cells (dfA a A c) 89)) (.cells (dfA b A' c') 89)
  have K := Lib.hid (sameC a.f1 b.f1 _ _ _ (ha.below hW) (hb.below hW))
  have HF := Lib.hid (show sameF a b = (a.f0.toList == b.f0.toList && sameTm a.f1 b.f1) by unfold sameF; rw [ByteArray.toList_eq, ByteArray.toList_eq])
  have HW := Lib.hid hW
  clear ha hb hW
  generalize sameTm a.f1 b.f1 = r at *
  cases h1 : (a.f0.toList == b.f0.toList) with
  | false =>
    rw [h1] at HF
    go_enter Tryz.func78, Tryz.ntmps78
    go_wp2_with fail
    go_ret
    exact ⟨by rw [HF.out]; rfl, HW.out⟩
  | true =>
    rw [h1] at HF
    go_enter Tryz.func78, Tryz.ntmps78
    go_wp2_with fail
    refine K.out.mono ?_
    rintro e w2 ⟨rfl, hb⟩
    have HB := Lib.hid (HW.out.trans (hb.mono HW.out.size))
    clear hb
    go_wp2_with fail
    go_ret
    exact ⟨by rw [HF.out]; rfl, HB.out⟩
theorem samesF_len : ∀ (l m : List Df), l.length ≠ m.length → samesF l m = false
  | [], [], h => absurd rfl h
  | [], _ :: _, _ => by simp [samesF]
  | _ :: _, [], _ => by simp [samesF]
  | a :: l, b :: m, h => by
    rw [samesF, samesF_len l m (fun e => h (by simp [e]))]; simp
set_option maxRecDepth 100000 in
set_option maxHeartbeats 4000000 in
theorem eqDefs (l : List Df) (m : List Df) (A A' : Option Addr) (c c' : Nat) (w : World) (hA : Kd.C k89 w A l.length l) (hB : Kd.C k89 w A' m.length m) :
    Calls Tryz.prog 77 #[.slice A l.length c, .slice A' m.length c', .func (.func 78) #[] #[]] w fun e w' => e = .returned (.bool (samesF l m)) ∧ Below w.heap.size w w' := by
  have HA := Lib.hid hA
  have HB := Lib.hid hB
  have hll := hA.2.1
  have hmm := hB.2.1
  clear hA hB
  by_cases hlen : l.length = m.length
  · have hd : ((l.length : Int) != (m.length : Int)) = false := by simp [hlen]
    have HL := Lib.hid hlen
    clear hlen
    go_enter Tryz.func77, Tryz.ntmps77
    go_wp2_with fail
    go_loopg [17] l.length (fun gk v17 wr => ∃ i : Nat, v17 = .int .i64 i ∧ i ≤ l.length ∧ gk = l.length - i ∧ Aside0 (samesF (l.drop i) (m.drop i) = samesF l m) ∧ Aside0 (Below w.heap.size w wr))
    case atStart => exact ⟨0, rfl, by omega, by omega, ⟨rfl⟩, ⟨Below.refl _ _⟩⟩
    case round =>
      obtain ⟨i, rfl, hi, hgk, HS, HW⟩ := hrel
      by_cases hlt : i < l.length
      · have hlm : i < m.length := by have := HL.out; omega
        have hdd : decide ((i : Int) < (l.length : Int)) = true := by rw [decide_eq_true_eq]; omega
        have hdm : decide ((i : Int) < (m.length : Int)) = true := by rw [decide_eq_true_eq]; omega
        have hd0 : decide (0 ≤ (i : Int)) = true := by rw [decide_eq_true_eq]; omega
        obtain ⟨ad, A3, c3, rfl, a0, a1, a2, a3, a4, ha⟩ := DfR.at (Kd.C_below HA.out HW.out) i hlt
        obtain ⟨bd, B3, b3, rfl, e0, e1, e2, e3, e4, hb⟩ := DfR.at (Kd.C_below HB.out HW.out) i hlm
        have hs : samesF (l.drop i) (m.drop i) = (sameF l[i] m[i] && samesF (l.drop (i + 1)) (m.drop (i + 1))) := by
          rw [List.drop_eq_getElem_cons hlt, List.drop_eq_getElem_cons hlm, samesF]
        rw [HS.out] at hs
        generalize l[i] = x at *
        generalize m[i] = y at *
        have e0' := fun o => pw_cell_below (below_alloc (Below.refl wr.heap.size wr) o) e0
        have e1' := fun o => pw_cell_below (below_alloc (Below.refl wr.heap.size wr) o) e1
        have e2' := fun o => pw_cell_below (below_alloc (Below.refl wr.heap.size wr) o) e2
        have e3' := fun o => pw_cell_below (below_alloc (Below.refl wr.heap.size wr) o) e3
        have e4' := fun o => pw_cell_below (below_alloc (Below.refl wr.heap.size wr) o) e4
        have hb2 : ∀ o1 o2, Below wr.heap.size wr ((wr.alloc o1).alloc o2) := fun o1 o2 => below_alloc (below_alloc (Below.refl _ _) _) _
        have K := Lib.hid (fun o1 o2 => sameFD x y _ _ _ (ha.below (hb2 o1 o2)) (hb.below (hb2 o1 o2)))
        have X8 := fun o2 => (Own.new wr (dfA x A3 c3) 89).alloc o2
        have X9 := Own.new (wr.alloc (.cells (dfA x A3 c3) 89)) (dfA y B3 b3) 89
        have x80 := fun o => (X8 o).cell 0
        have x81 := fun o => (X8 o).cell 1
        have x82 := fun o => (X8 o).cell 2
        have x83 := fun o => (X8 o).cell 3
        have x84 := fun o => (X8 o).cell 4
        have x90 := X9.cell 0
        have x91 := X9.cell 1
        have x92 := X9.cell 2
        have x93 := X9.cell 3
        have x94 := X9.cell 4
        have HSS := Lib.hid hs
        have HW2 := Lib.hid (fun o1 o2 w2 (h : Below ((wr.alloc o1).alloc o2).heap.size ((wr.alloc o1).alloc o2) w2) => (HW.out.trans ((hb2 o1 o2).mono HW.out.size)).trans (h.mono (Nat.le_trans HW.out.size (hb2 o1 o2).size)))
        clear hs HS ha hb hb2
        generalize sameF x y = bb at *
        cases bb with
        | false =>
          go_wp2_with fail
          refine (K.out _ _).mono ?_
          rintro e w2 ⟨rfl, hb⟩
          have HW3 := Lib.hid (HW2.out _ _ _ hb)
          clear hb x80 x81 x82 x83 x84 x90 x91 x92 x93 x94 e0' e1' e2' e3' e4'
          go_wp2_with fail
          go_ret
          exact ⟨by rw [HSS.out]; rfl, HW3.out⟩
        | true =>
          go_wp2_with fail
          refine (K.out _ _).mono ?_
          rintro e w2 ⟨rfl, hb⟩
          have HW3 := Aside0.mk (HW2.out _ _ _ hb)
          clear hb x80 x81 x82 x83 x84 x90 x91 x92 x93 x94 e0' e1' e2' e3' e4'
          go_wp2_with fail
          go_roundg (l.length - (i + 1))
          case measure => omega
          case rel => exact ⟨i + 1, by go_num, by omega, rfl, ⟨HSS.out.symm⟩, HW3⟩
      · have hdd : decide ((i : Int) < (l.length : Int)) = false := by rw [decide_eq_false_iff_not]; omega
        have hf : samesF l m = true := by
          have := HS.out
          rw [List.drop_of_length_le (by omega), List.drop_of_length_le (by have := HL.out; omega)] at this
          rw [← this]; rfl
        have HF := Lib.hid hf
        clear hf
        go_wp2_with fail
        go_ret
        exact ⟨by rw [HF.out]; rfl, HW.out⟩
  · have hd : ((l.length : Int) != (m.length : Int)) = true := by simp; omega
    have HS := Lib.hid (samesF_len l m hlen)
    go_enter Tryz.func77, Tryz.ntmps77
    go_wp2_with fail
    go_ret
    exact ⟨by rw [HS.out]; rfl, Below.refl _ _⟩
theorem samesD_len : ∀ (l m : List Dl), l.length ≠ m.length → samesD l m = false
  | [], [], h => absurd rfl h
  | [], _ :: _, _ => by simp [samesD]
  | _ :: _, [], _ => by simp [samesD]
  | a :: l, b :: m, h => by
    rw [samesD, samesD_len l m (fun e => h (by simp [e]))]; simp
theorem sameDl_loop (l m : List Dl) (hl : l.length ≤ 9223372036854775806) (hlm : l.length = m.length) (d : Nat) : ∀ (k i : Nat), i ≤ l.length → l.length - i = d → d + 1 ≤ k →
    prog_Decl_76.l0 k l m (l.length : Int) (i : Int) = some (samesD (l.drop i) (m.drop i)) := by
  induction d with
  | zero =>
    intro k i h1 h2 h3
    obtain ⟨k, rfl⟩ : ∃ j, k = j + 1 := ⟨k - 1, by omega⟩
    simp only [prog_Decl_76.l0]
    rw [if_neg (by omega), List.drop_eq_nil_of_le (by omega), List.drop_eq_nil_of_le (by omega)]; rfl
  | succ d ih =>
    intro k i h1 h2 h3
    obtain ⟨k, rfl⟩ : ∃ j, k = j + 1 := ⟨k - 1, by omega⟩
    have hlt : i < l.length := by omega
    have hmt : i < m.length := by omega
    have e1 : wrap64 ((i : Int) + 1) = ((i + 1 : Nat) : Int) := by rw [wrap_id (by omega) (by omega)]; rfl
    have hgo := ih k (i + 1) (by omega) (by omega) (by omega)
    simp only [prog_Decl_76.l0]
    rw [if_pos (by omega), if_pos (by omega), if_pos (by omega), if_pos (by omega), rdDl_at l i hlt, rdDl_at m i hmt, e1, hgo, List.drop_eq_getElem_cons hlt, List.drop_eq_getElem_cons hmt, samesD]
    have he : (!((l[i].f0).toList == (m[i].f0).toList) || (!((l[i].f1).toList == (m[i].f1).toList) || (!((l[i].f2) == (m[i].f2))))) = !sameD l[i] m[i] := by
      unfold sameD; rw [ByteArray.toList_eq, ByteArray.toList_eq, ByteArray.toList_eq, ByteArray.toList_eq]; simp
    rw [he]
    cases sameD l[i] m[i] <;> simp
theorem sameDl_eq (l m : List Dl) (hl : l.length ≤ 9223372036854775806) : prog_Decl_76.f (l.length + 1) l m = some (samesD l m) := by
  unfold prog_Decl_76.f
  by_cases h : l.length = m.length
  · rw [if_pos (by omega)]
    have := sameDl_loop l m hl h l.length (l.length + 1) 0 (by omega) (by omega) (by omega)
    simpa using this
  · rw [if_neg (by omega), samesD_len l m h]
theorem eqDls (l m : List Dl) (hl : l.length ≤ 9223372036854775806) (A A' : Option Addr) (c c' : Nat) (w : World) (hA : Kd.C k87 w A l.length l) (hc : l.length ≤ c) (hB : Kd.C k87 w A' m.length m) (hc' : m.length ≤ c') :
    Calls Tryz.prog 76 #[.slice A l.length c, .slice A' m.length c'] w fun e w' => e = .returned (.bool (samesD l m)) ∧ Below w.heap.size w w' := by
  refine (prog_Decl_76.calls (l.length + 1) A c l A' c' m (samesD l m) w hA hc hB hc' (sameDl_eq l m hl)).mono ?_
  rintro e w' ⟨rfl, hd⟩
  exact ⟨rfl, hd.below⟩
set_option maxRecDepth 100000 in
set_option maxHeartbeats 4000000 in
theorem prgSameC (p q : Prg) (hp0 : p.f0.length ≤ 9223372036854775806) (hp1 : p.f1.length ≤ 9223372036854775806) (A0 : Option Addr) (c0 : Nat) (A1 : Option Addr) (c1 : Nat) (A2 : Option Addr) (c2 : Nat) (A3 : Option Addr) (c3 : Nat) (B0 : Option Addr) (e0 : Nat) (B1 : Option Addr) (e1 : Nat) (B2 : Option Addr) (e2 : Nat) (B3 : Option Addr) (e3 : Nat) (w : World) (h : PgC w p A0 c0 A1 c1 A2 c2 A3 c3) (h' : PgC w q B0 e0 B1 e1 B2 e2 B3 e3) :
    Calls Tryz.prog 41 #[.agg (pgA p A0 c0 A1 c1 A2 c2 A3 c3), .agg (pgA q B0 e0 B1 e1 B2 e2 B3 e3)] w fun e w' => e = .returned (.bool (samePrg p q)) ∧ Below w.heap.size w w' := by
  have hW := below_alloc (below_alloc (Below.refl w.heap.size w) (.cells (pgA p A0 c0 A1 c1 A2 c2 A3 c3) 64)) (.cells (pgA q B0 e0 B1 e1 B2 e2 B3 e3) 64)
  have O2 := (Own.new w (pgA p A0 c0 A1 c1 A2 c2 A3 c3) 64).alloc (.cells (pgA q B0 e0 B1 e1 B2 e2 B3 e3) 64)
  have O3 := Own.new (w.alloc (.cells (pgA p A0 c0 A1 c1 A2 c2 A3 c3) 64)) (pgA q B0 e0 B1 e1 B2 e2 B3 e3) 64
  rw [show (w.alloc (.cells (pgA p A0 c0 A1 c1 A2 c2 A3 c3) 64)).heap.size = w.heap.size + 1 by simp] at O3
  have K1 := fun W (hb : Below w.heap.size w W) => eqDls p.f0 q.f0 hp0 A0 B0 c0 e0 W (h.below hb).i h.il (h'.below hb).i h'.il
  have K2 := fun W (hb : Below w.heap.size w W) => eqDls p.f1 q.f1 hp1 A1 B1 c1 e1 W (h.below hb).c h.cl (h'.below hb).c h'.cl
  have K3 := fun W (hb : Below w.heap.size w W) => eqDefs p.f2 q.f2 A2 B2 c2 e2 W (h.below hb).d (h'.below hb).d
  have K4 := fun W (hb : Below w.heap.size w W) => sameC p.f3 q.f3 _ _ W (h.below hb).b (h'.below hb).b
  have hF : samePrg p q = (samesD p.f0 q.f0 && (samesD p.f1 q.f1 && (samesF p.f2 q.f2 && sameTm p.f3 q.f3))) := rfl
  generalize samesD p.f0 q.f0 = b1 at *
  generalize samesD p.f1 q.f1 = b2 at *
  generalize samesF p.f2 q.f2 = b3 at *
  generalize sameTm p.f3 q.f3 = b4 at *
  have K1 := Lib.hid (K1 _ hW)
  have K2 := Lib.hid K2
  have K3 := Lib.hid K3
  have K4 := Lib.hid K4
  have HF := Lib.hid hF
  have HW := Lib.hid hW
  clear hW h h' hF
  have d0 := O2.cell 0
  have f0 := O3.cell 0
  have d1 := O2.cell 1
  have f1 := O3.cell 1
  have d2 := O2.cell 2
  have f2 := O3.cell 2
  have d3 := O2.cell 3
  have f3 := O3.cell 3
  have d4 := O2.cell 4
  have f4 := O3.cell 4
  have d5 := O2.cell 5
  have f5 := O3.cell 5
  have d6 := O2.cell 6
  have f6 := O3.cell 6
  go_enter Tryz.func41, Tryz.ntmps41
  go_wp2_with fail
  refine K1.out.mono ?_
  rintro e w1 ⟨rfl, hb⟩
  have O2 : Own _ _ _ _ := blk_below O2 hb
  have O3 : Own _ _ _ _ := blk_below O3 hb
  have HB := Lib.hid (HW.out.trans (hb.mono HW.out.size))
  have d0 := O2.cell 0
  have f0 := O3.cell 0
  have d1 := O2.cell 1
  have f1 := O3.cell 1
  have d2 := O2.cell 2
  have f2 := O3.cell 2
  have d3 := O2.cell 3
  have f3 := O3.cell 3
  have d4 := O2.cell 4
  have f4 := O3.cell 4
  have d5 := O2.cell 5
  have f5 := O3.cell 5
  have d6 := O2.cell 6
  have f6 := O3.cell 6
  clear hb
  cases b1 with
  | false =>
    go_wp2_with fail
    go_ret
    exact ⟨by rw [HF.out]; rfl, HB.out⟩
  | true =>
    have K2 := Lib.hid (K2.out w1 HB.out)
    go_wp2_with fail
    refine K2.out.mono ?_
    rintro e w2 ⟨rfl, hb⟩
    have O2 : Own _ _ _ _ := blk_below O2 hb
    have O3 : Own _ _ _ _ := blk_below O3 hb
    have HB := Lib.hid (HB.out.trans (hb.mono HB.out.size))
    have d0 := O2.cell 0
    have f0 := O3.cell 0
    have d1 := O2.cell 1
    have f1 := O3.cell 1
    have d2 := O2.cell 2
    have f2 := O3.cell 2
    have d3 := O2.cell 3
    have f3 := O3.cell 3
    have d4 := O2.cell 4
    have f4 := O3.cell 4
    have d5 := O2.cell 5
    have f5 := O3.cell 5
    have d6 := O2.cell 6
    have f6 := O3.cell 6
    clear hb
    cases b2 with
    | false =>
      go_wp2_with fail
      go_ret
      exact ⟨by rw [HF.out]; rfl, HB.out⟩
    | true =>
      have K3 := Lib.hid (K3.out w2 HB.out)
      go_wp2_with fail
      refine K3.out.mono ?_
      rintro e w3 ⟨rfl, hb⟩
      have O2 : Own _ _ _ _ := blk_below O2 hb
      have O3 : Own _ _ _ _ := blk_below O3 hb
      have HB := Lib.hid (HB.out.trans (hb.mono HB.out.size))
      have d0 := O2.cell 0
      have f0 := O3.cell 0
      have d1 := O2.cell 1
      have f1 := O3.cell 1
      have d2 := O2.cell 2
      have f2 := O3.cell 2
      have d3 := O2.cell 3
      have f3 := O3.cell 3
      have d4 := O2.cell 4
      have f4 := O3.cell 4
      have d5 := O2.cell 5
      have f5 := O3.cell 5
      have d6 := O2.cell 6
      have f6 := O3.cell 6
      clear hb
      cases b3 with
      | false =>
        go_wp2_with fail
        go_ret
        exact ⟨by rw [HF.out]; rfl, HB.out⟩
      | true =>
        have K4 := Lib.hid (K4.out w3 HB.out)
        go_wp2_with fail
        refine K4.out.mono ?_
        rintro e w4 ⟨rfl, hb⟩
        have O2 : Own _ _ _ _ := blk_below O2 hb
        have O3 : Own _ _ _ _ := blk_below O3 hb
        have HB := Lib.hid (HB.out.trans (hb.mono HB.out.size))
        clear hb
        go_wp2_with fail
        go_ret
        exact ⟨by rw [HF.out]; rfl, HB.out⟩
end Go.Proofs.YtchekgnacodolaaGreatDoor.X
end

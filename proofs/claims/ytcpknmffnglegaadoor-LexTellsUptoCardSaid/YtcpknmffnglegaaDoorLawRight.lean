/- LexRight: what is told of a text is right, and its print tells it again; a text that is too long is refused. For every text. -/
import Derived.Test.YtcpknmffnglegaaDoorExam
namespace Go.Proofs.YtcpknmffnglegaaDoor.X
open Go.RowKit Go.Proofs.YtcpknmffnglegaaDoorW.PrintWords
set_option linter.unusedSimpArgs false
set_option linter.unusedVariables false

/-- chancellaw02.same, at two lists of tokens. -/
theorem same_loop (l m : List TokT) (hl : l.length = m.length) (hb : l.length ≤ 9223372036854775806) (d : Nat) : ∀ (k i : Nat), i ≤ l.length → l.length - i = d → d < k →
    chancellaw02_same.l0 k l m (i : Int) = some (sameL (l.drop i) (m.drop i)) := by
  induction d with
  | zero =>
    intro k i h1 h2 h3
    obtain ⟨k, rfl⟩ : ∃ m, k = m + 1 := ⟨k - 1, by omega⟩
    have hi : i = l.length := by omega
    subst hi
    simp only [chancellaw02_same.l0]
    rw [if_neg (by omega), List.drop_length, hl, List.drop_length]; rfl
  | succ d ih =>
    intro k i h1 h2 h3
    obtain ⟨k, rfl⟩ : ∃ m, k = m + 1 := ⟨k - 1, by omega⟩
    have hlt : i < l.length := by omega
    have hlt2 : i < m.length := by omega
    have hgo := ih k (i + 1) (by omega) (by omega) (by omega)
    simp only [chancellaw02_same.l0]
    rw [if_pos (by omega), if_pos (by omega), if_pos (by omega), wrap_id (by omega) (by omega), List.drop_eq_getElem_cons hlt, List.drop_eq_getElem_cons hlt2, sameL]
    have e1 : rd_T41 l (i : Int) = l[i] := by unfold rd_T41; simp [List.getD_eq_getElem?_getD, List.getElem?_eq_getElem hlt]
    have e2 : rd_T41 m (i : Int) = m[i] := by unfold rd_T41; simp [List.getD_eq_getElem?_getD, List.getElem?_eq_getElem hlt2]
    rw [e1, e2]
    have hs : ∀ a b : TokT, (!(a.f0 == b.f0) || (!(a.f1.toList == b.f1.toList) || !(a.f2 == b.f2))) = !sameT a b := fun a b => by unfold sameT; cases (a.f0 == b.f0) <;> cases (a.f1.toList == b.f1.toList) <;> cases (a.f2 == b.f2) <;> rfl
    rw [hs]
    cases sameT l[i] m[i] with
    | false => rfl
    | true => rw [if_neg (by simp)]; exact hgo
theorem sameC (l m : List TokT) (A A' : Option Addr) (c c' : Nat) (w : World) (hr : Reads w A c l) (hr' : Reads w A' c' m) (hb : l.length ≤ 9223372036854775806) :
    Calls Tryd.prog 22 #[.slice A l.length c, .slice A' m.length c'] w fun e w' => e = .returned (.bool (sameL l m)) ∧ Below w.heap.size w w' := by
  have h : chancellaw02_same.f (l.length + 1) l m = some (sameL l m) := by
    unfold chancellaw02_same.f
    by_cases hl : l.length = m.length
    · rw [if_pos (by omega)]
      have := same_loop l m hl hb l.length (l.length + 1) 0 (by omega) (by omega) (by omega)
      simpa using this
    · rw [if_neg (by omega)]
      have : sameL l m = false := by
        cases h : sameL l m with
        | false => rfl
        | true => exact absurd (congrArg List.length ((sameL_iff l m).1 h)) hl
      rw [this]
  refine (chancellaw02_same.calls (l.length + 1) A c l A' c' m (sameL l m) w hr.1 hr.2 hr'.1 hr'.2 h).mono ?_
  rintro e w' ⟨rfl, hd⟩
  exact ⟨rfl, hd.below⟩

theorem lexR_ok {l : List UInt8} (h : (lexR l).2 = 0) : tokL l = some (lexR l).1 ∧ l.length ≤ 65536 := by
  unfold lexR at h ⊢
  by_cases hl : l.length > 65536
  · rw [if_pos hl] at h; cases h
  · rw [if_neg hl] at h ⊢
    cases ht : tokL l with
    | some ts => exact ⟨rfl, by omega⟩
    | none => rw [ht] at h; cases h
theorem lexR_err {l : List UInt8} (h : (lexR l).2 ≠ 0) : (lexR l).1 = [] ∧ ((lexR l).2 = 1 ↔ l.length > 65536) ∧ ((lexR l).2 = 1 ∨ (lexR l).2 = 2) := by
  unfold lexR at h ⊢
  by_cases hl : l.length > 65536
  · rw [if_pos hl]; exact ⟨rfl, by simp [hl], .inl rfl⟩
  · rw [if_neg hl] at h ⊢
    cases ht : tokL l with
    | some ts => rw [ht] at h; exact absurd rfl h
    | none => exact ⟨rfl, by simp; omega, .inr rfl⟩
theorem lexR_of {l : List UInt8} {ts : List TokT} (h : tokL l = some ts) (hl : l.length ≤ 65536) : lexR l = (ts, 0) := by
  unfold lexR
  rw [if_neg (by omega), h]
theorem sum_bound (n : Nat) : ∀ (ts : List TokT), (∀ t ∈ ts, t.f1.size ≤ n) → (ts.map fun t => t.f1.size + 1).sum ≤ ts.length * (n + 1)
  | [], _ => by simp
  | x :: l, h => by
    have := sum_bound n l fun y hy => h y (by simp [hy])
    have hx := h x (by simp)
    rw [List.map_cons, List.sum_cons, List.length_cons, Nat.succ_mul]
    omega
theorem print_bound (ts : List TokT) (n : Nat) (h : ∀ t ∈ ts, t.f1.size ≤ n) : (printL ts).length ≤ ts.length * (n + 1) :=
  Nat.le_trans (printL_len ts) (sum_bound n ts h)

set_option maxHeartbeats 1000000 in
theorem lawRight (l : List UInt8) (hl : l.length ≤ 140737488351232) (w : World) (hG : GL w) :
    Calls Tryd.prog 5 #[.string (B l)] w fun e w' => e = .returned (.bool true) ∧ Below w.heap.size w w' := by
  have HE := Aside0.mk (examplesC w hG)
  have HG := Aside0.mk hG
  have KL := Aside0.mk (fun W hW => lexC l (by omega) W hW)
  clear hG
  by_cases h0 : (lexR l).2 = 0
  · obtain ⟨ht, hlen⟩ := lexR_ok h0
    obtain ⟨ts, hts⟩ : ∃ ts, (lexR l).1 = ts := ⟨_, rfl⟩
    rw [hts] at ht
    obtain ⟨hr, hsz, hn⟩ := tokL_all l.length l ts (Nat.le_refl _) ht
    have hpb := print_bound ts 65536 fun t h => Nat.le_trans (hsz t h) hlen
    have hpl : (printL ts).length ≤ 4295032832 := by omega
    rw [hts, h0] at KL
    have KP := Aside0.mk (fun A c W hr => printC ts A c (by omega) (by omega) W hr)
    have KR := Aside0.mk (fun A c W hG hrd => hr ▸ rightC ts A c (fun t h => by have := hsz t h; omega) W hG hrd)
    have KL2 := Aside0.mk (fun W hW => lexC (printL ts) (by omega) W hW)
    have KS := Aside0.mk (fun m A A' c c' W h h' => sameC ts m A A' c c' W h h' (by omega))
    have hpr := tokL_print ts hr
    obtain ⟨p, hp⟩ : ∃ p, printL ts = p := ⟨_, rfl⟩
    rw [hp] at KP KL2 hpr
    have HP := Aside0.mk hpr
    clear hp hpr hr hsz hn hpb hpl ht hts h0
    go_enter Tryd.func5, Tryd.ntmps5
    go_wp2_with fail
    refine HE.out.mono ?_
    rintro e w1 ⟨rfl, hb⟩
    have HB1 := Aside0.mk hb
    clear hb
    go_wp2_with fail
    refine (KL.out _ (HG.out.below HB1.out)).mono ?_
    rintro e w2 ⟨A1, c1, rfl, hr1, -, hb⟩
    have R1 := Aside0.mk hr1
    have HB2 := Aside0.mk (below_step HB1.out hb)
    clear hb hr1 HB1
    go_wp2_with fail
    refine (KP.out _ _ _ R1.out).mono ?_
    rintro e w3 ⟨rfl, hb⟩
    have HB3 := Aside0.mk (below_step HB2.out hb)
    have R1 := Aside0.mk (R1.out.below hb)
    clear hb HB2
    go_wp2_with fail
    refine (KL2.out _ (HG.out.below HB3.out)).mono ?_
    rintro e w4 ⟨A2, c2, rfl, hr2, -, hb⟩
    have R2 := Aside0.mk hr2
    have HB4 := Aside0.mk (below_step HB3.out hb)
    have R1 := Aside0.mk (R1.out.below hb)
    clear hb HB3 hr2
    go_wp2_with fail
    refine (KR.out _ _ _ (HG.out.below HB4.out) R1.out).mono ?_
    rintro e w5 ⟨rfl, hb⟩
    have HB5 := Aside0.mk (below_step HB4.out hb)
    have R1 := Aside0.mk (R1.out.below hb)
    have R2 := Aside0.mk (R2.out.below hb)
    clear hb HB4
    by_cases hlong : p.length ≤ 65536
    · have hq := lexR_of HP.out hlong
      rw [hq] at R2 ⊢
      go_wp2_with fail
      refine (KS.out _ _ _ _ _ _ R1.out R2.out).mono ?_
      rw [same_self]
      rintro e w6 ⟨rfl, hb⟩
      have HB6 := Aside0.mk (below_step HB5.out hb)
      clear hb HB5
      go_wp2_with fail
      go_ret
      exact ⟨rfl, HB6.out⟩
    · have hq : lexR p = ([], 1) := by unfold lexR; rw [if_pos (by omega)]
      rw [hq] at R2 ⊢
      go_wp2_with fail
      refine (KP.out _ _ _ R1.out).mono ?_
      rintro e w6 ⟨rfl, hb⟩
      have HB6 := Aside0.mk (below_step HB5.out hb)
      clear hb HB5
      have hsz : (B p).size = p.length := B_size p
      have hgt : (65536 : Int) < ((B p).size : Int) := by rw [hsz]; omega
      have hgt2 : decide (65536 < (B p).size) = true := by rw [hsz]; simp; omega
      clear hsz
      go_wp2_with fail
      go_ret
      exact ⟨rfl, HB6.out⟩
  · obtain ⟨h1, h2, h3⟩ := lexR_err h0
    rw [h1] at KL
    obtain ⟨r, hr⟩ : ∃ r, (lexR l).2 = r := ⟨_, rfl⟩
    rw [hr] at KL h0 h2 h3
    have hsz := B_size l
    have hne : (r == 0) = false := by simp [h0]
    have hfin : Aside0 (((r == 1) == decide ((65536 : Int) < ((B l).size : Int))) = true) := ⟨by
      rw [hsz]
      by_cases hh : l.length > 65536
      · have e1 : decide ((65536 : Int) < (l.length : Int)) = true := by rw [decide_eq_true_eq]; omega
        rw [h2.2 hh, e1]; rfl
      · have e1 : decide ((65536 : Int) < (l.length : Int)) = false := by rw [decide_eq_false_iff_not]; omega
        have e2 : (r == 1) = false := by rw [beq_eq_false_iff_ne]; exact fun e => hh (h2.1 e)
        rw [e1, e2]; rfl⟩
    clear hr h1 h2 h3 hsz h0
    go_enter Tryd.func5, Tryd.ntmps5
    go_wp2_with fail
    refine HE.out.mono ?_
    rintro e w1 ⟨rfl, hb⟩
    have HB1 := Aside0.mk hb
    clear hb
    go_wp2_with fail
    refine (KL.out _ (HG.out.below HB1.out)).mono ?_
    rintro e w2 ⟨A1, c1, rfl, -, -, hb⟩
    have HB2 := Aside0.mk (below_step HB1.out hb)
    clear hb HB1
    go_wp2_with fail
    go_ret
    exact ⟨by rw [← hfin.out]; rfl, HB2.out⟩
end Go.Proofs.YtcpknmffnglegaaDoor.X

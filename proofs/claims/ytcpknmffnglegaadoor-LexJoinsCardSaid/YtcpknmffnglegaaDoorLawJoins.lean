/- LexJoins: two texts with a line feed between have the tokens of both; if one of them has none, neither has that. -/
import Derived.Test.YtcpknmffnglegaaDoorLawRight
namespace Go.Proofs.YtcpknmffnglegaaDoor.X
open Go.RowKit Go.Proofs.YtcpknmffnglegaaDoorW.PrintWords Go.Proofs.YtcpknmffnglegaaDoorW.PrintLast Go.Proofs.YtcpknmffnglegaaDoorW.PrintMore
attribute [local go_sem] max2_int min2_int max_two min_two max_three min_three max_four min_four   -- for this text's walks alone
set_option linter.unusedSimpArgs false
set_option linter.unusedVariables false

theorem joins_cases (l m : List UInt8) (hl : l.length ≤ 30000) (hm : m.length ≤ 30000) :
    ((lexR l).2 = 0 ∧ (lexR m).2 = 0 ∧ lexR (l ++ 10 :: m) = ((lexR l).1 ++ (lexR m).1, 0)) ∨ ((lexR l).2 = 2 ∧ (lexR (l ++ 10 :: m)).2 = 2) ∨ ((lexR l).2 = 0 ∧ (lexR m).2 = 2 ∧ (lexR (l ++ 10 :: m)).2 = 2) := by
  have hj := tokL_join l.length l m (Nat.le_refl _)
  have hlen : (l ++ 10 :: m).length ≤ 65536 := by simp; omega
  unfold lexR
  rw [if_neg (by omega), if_neg (by omega), if_neg (by omega), hj]
  cases tokL l with
  | none => exact .inr (.inl ⟨rfl, rfl⟩)
  | some a =>
    cases tokL m with
    | none => exact .inr (.inr ⟨rfl, rfl, rfl⟩)
    | some b => exact .inl ⟨rfl, rfl, rfl⟩
theorem lexR_len (l : List UInt8) : (lexR l).1.length ≤ 65536 := by
  unfold lexR
  by_cases h : l.length > 65536
  · rw [if_pos h]; simp
  · rw [if_neg h]
    cases ht : tokL l with
    | none => simp
    | some a =>
      have := (tokL_all l.length l a (Nat.le_refl _) ht).2.2
      show a.length ≤ _
      omega

set_option maxHeartbeats 8000000 in
set_option maxRecDepth 100000 in
theorem lawJoins (l : List UInt8) (hl : l.length ≤ 140737488351232) (m : List UInt8) (hm : m.length ≤ 140737488351232) (w : World) (hG : GL w) :
    Calls Tryd.prog 7 #[.string (B l), .string (B m)] w fun e w' => e = .returned (.bool true) ∧ Below w.heap.size w w' := by
  have HE := Aside0.mk (examplesC w hG)
  have HG := Aside0.mk hG
  clear hG
  -- the beginnings
  obtain ⟨n1, hn1⟩ : ∃ n : Int, (if 30000 < ((B l).size : Int) then 30000 else ((B l).size : Int)) = n := ⟨_, rfl⟩
  obtain ⟨n2, hn2⟩ : ∃ n : Int, (if 30000 < ((B m).size : Int) then 30000 else ((B m).size : Int)) = n := ⟨_, rfl⟩
  have e1 : n1 = ((min l.length 30000 : Nat) : Int) := by rw [← hn1, B_size]; (repeat' split) <;> omega
  have e2 : n2 = ((min m.length 30000 : Nat) : Int) := by rw [← hn2, B_size]; (repeat' split) <;> omega
  have s1 : (B l).extract 0 n1.toNat = B (l.take (min l.length 30000)) := by rw [e1, B_extract]; simp
  have s2 : (B m).extract 0 n2.toNat = B (m.take (min m.length 30000)) := by rw [e2, B_extract]; simp
  have p1 : (0 ≤ n1) = True := eq_true (by omega)
  have p2 : (0 ≤ n2) = True := eq_true (by omega)
  have q1 : (n1 ≤ ((B l).size : Int)) = True := eq_true (by rw [B_size]; omega)
  have q2 : (n2 ≤ ((B m).size : Int)) = True := eq_true (by rw [B_size]; omega)
  have p1' := of_eq_true p1
  have p2' := of_eq_true p2
  have q1' := of_eq_true q1
  have q2' := of_eq_true q2
  have b1 : decide (0 ≤ n1) = true := decide_eq_true p1'
  have b2 : decide (0 ≤ n2) = true := decide_eq_true p2'
  have d1 : decide (n1 ≤ ((B l).size : Int)) = true := decide_eq_true q1'
  have d2 : decide (n2 ≤ ((B m).size : Int)) = true := decide_eq_true q2'
  obtain ⟨u, hu⟩ : ∃ u, l.take (min l.length 30000) = u := ⟨_, rfl⟩
  obtain ⟨v, hv⟩ : ∃ v, m.take (min m.length 30000) = v := ⟨_, rfl⟩
  have hul : u.length ≤ 30000 := by rw [← hu, List.length_take]; omega
  have hvl : v.length ≤ 30000 := by rw [← hv, List.length_take]; omega
  rw [hu] at s1
  rw [hv] at s2
  clear hu hv e1 e2
  have KL1 := fun W hW => lexC u (by omega) W hW
  have KL2 := fun W hW => lexC v (by omega) W hW
  have KL3 := fun W hW => lexC (u ++ 10 :: v) (by simp; omega) W hW
  have hcs := joins_cases u v hul hvl
  have ln1 := lexR_len u
  have ln2 := lexR_len v
  have hj : B u ++ (⟨#[10]⟩ : ByteArray) ++ B v = B (u ++ 10 :: v) := by
    rw [show (⟨#[10]⟩ : ByteArray) = B [10] from rfl, B_append, B_append]; congr 1; simp
  rw [← hj] at KL3
  have z1 : (9223372036854775807 < (B u).size + 1) = False := eq_false (by rw [B_size]; omega)
  have z2 : (9223372036854775807 < (B u).size + 1 + (B v).size) = False := eq_false (by rw [B_size, B_size]; omega)
  have S1 := Aside0.mk s1
  have S2 := Aside0.mk s2
  have HC := Aside0.mk hcs
  have LN := Aside0.mk (And.intro ln1 ln2)
  clear s1 s2 hcs ln1 ln2 hj
  obtain ⟨L1, hL1⟩ : ∃ x, lexR u = x := ⟨_, rfl⟩
  obtain ⟨L2, hL2⟩ : ∃ x, lexR v = x := ⟨_, rfl⟩
  obtain ⟨L3, hL3⟩ : ∃ x, lexR (u ++ 10 :: v) = x := ⟨_, rfl⟩
  rw [hL1] at KL1 HC LN
  rw [hL2] at KL2 HC LN
  rw [hL3] at KL3 HC
  clear hL1 hL2 hL3
  have KL1 := Aside0.mk KL1
  have KL2 := Aside0.mk KL2
  have KL3 := Aside0.mk KL3
  have LN := LN
  obtain ⟨t1, r1⟩ := L1
  obtain ⟨t2, r2⟩ := L2
  obtain ⟨t3, r3⟩ := L3
  have LN : Aside0 (t1.length ≤ 65536 ∧ t2.length ≤ 65536) := LN
  have HC : Aside0 ((r1 = 0 ∧ r2 = 0 ∧ (t3, r3) = (t1 ++ t2, (0 : Int))) ∨ (r1 = 2 ∧ r3 = 2) ∨ (r1 = 0 ∧ r2 = 2 ∧ r3 = 2)) := HC
  have KS : Aside0 (∀ A A' c c' W, Reads W A c (t1 ++ t2) → Reads W A' c' (t1 ++ t2) → Calls Tryd.prog 22 #[.slice A (t1.length + t2.length) c, .slice A' (t1.length + t2.length) c'] W fun e w' => e = .returned (.bool true) ∧ Below W.heap.size W w') := ⟨fun A A' c c' W h h' => by
    have hx := sameC (t1 ++ t2) (t1 ++ t2) A A' c c' W h h' (by have := LN.out; simp only [List.length_append]; omega)
    rw [same_self, List.length_append] at hx
    exact hx⟩
  have BU : Aside0 (∃ s, B u = s) := ⟨_, rfl⟩
  go_enter Tryd.func7, Tryd.ntmps7
  go_wp2_with fail
  refine HE.out.mono ?_
  rintro e w1 ⟨rfl, hb⟩
  have HB1 := Aside0.mk hb
  clear hb
  go_wp2_with fail
  rw [S1.out, S2.out]
  refine (KL1.out _ (HG.out.below HB1.out)).mono ?_
  rintro e w2 ⟨A1, c1, rfl, hr1, -, hb⟩
  have R1 := Aside0.mk hr1
  have HB2 := Aside0.mk (below_step HB1.out hb)
  clear hb hr1 HB1
  go_wp2_with fail
  refine (KL2.out _ (HG.out.below HB2.out)).mono ?_
  rintro e w3 ⟨A2, c2, rfl, hr2, -, hb⟩
  have R1 := Aside0.mk (R1.out.below hb)
  have R2 := Aside0.mk hr2
  have HB3 := Aside0.mk (below_step HB2.out hb)
  clear hb hr2 HB2
  go_wp2_with fail
  refine (KL3.out _ (HG.out.below HB3.out)).mono ?_
  rintro e w4 ⟨A3, c3, rfl, hr3, -, hb⟩
  have R1 := Aside0.mk (R1.out.below hb)
  have R2 := Aside0.mk (R2.out.below hb)
  have R3 := Aside0.mk hr3
  have HB4 := Aside0.mk (below_step HB3.out hb)
  clear hb hr3 HB3
  rcases HC.out with ⟨h1, h2, h3⟩ | ⟨h1, h2⟩ | ⟨h1, h2, h3⟩
  · injection h3 with h3 h4
    subst h1 h2 h3 h4
    go_wp2_with (first
      | ((with_reducible refine gate_builtin (b := .append) (xs := #[.const (.slice none 0 0), .tmp 61]) rfl ?_); (try (refine gate_guard (by rfl) ?_; dsimp only)); at_builtin; refine Kd.R_append_rows k41 (w0 := w4) w4.heap.size rfl (.const (.slice none 0 0)) (.tmp 61) 22 41 (.agg #[(.int .i64 0), (.string ⟨#[]⟩), (.int .i64 0)]) 32 rfl Tryd.underlying22 info41 rfl (by decide) (by omega) (.slice none 0 0) [] t1 _ _ _ (fun _ => True) (fun _ => False) rfl rfl ?aO ?aR (fun _ _ h => h) (fun _ h => h.elim) ?aF ?aB ?aS ?aL ?_; (case aO => exact Kd.R_nil _ _ _ _ _); (case aR => exact R1.out.1); (case aF => exact fun _ _ => trivial); (case aB => exact Below.refl _ _); (case aS => exact Nat.le_refl _); (case aL => have := LN.out; simp only [List.length_nil]; omega); intro x1 w5 ho hb hg hat; have O5 := Aside0.mk ho; have HB5 := Aside0.mk hb; have R2 := Aside0.mk (R2.out.below hb); clear ho hb hg hat)
      | ((with_reducible refine gate_builtin (b := .append) (xs := #[.tmp 62, .tmp 63]) rfl ?_); (try (refine gate_guard (by rfl) ?_; dsimp only)); at_builtin; refine Kd.R_append_rows k41 (w0 := w4) w4.heap.size rfl (.tmp 62) (.tmp 63) 22 41 (.agg #[(.int .i64 0), (.string ⟨#[]⟩), (.int .i64 0)]) 32 rfl Tryd.underlying22 info41 rfl (by decide) (by omega) x1 t1 t2 _ _ _ (fun _ => True) (fun _ => False) rfl rfl ?aO ?aR (fun _ _ h => h) (fun _ h => h.elim) ?aF ?aB ?aS ?aL ?_; (case aO => exact O5.out); (case aR => exact R2.out.1); (case aF => exact fun _ _ => trivial); (case aB => exact HB5.out); (case aS => exact HB5.out.size); (case aL => have := LN.out; omega); intro x2 w6 ho hb hg hat; have O6 := Aside0.mk ho; have HB6 := Aside0.mk hb; have R3 := Aside0.mk (R3.out.below hb); clear ho hb hg hat; obtain ⟨A6, c6, eo6⟩ := Kd.R_slice O6.out; subst eo6))
    try rw [List.length_append]
    refine (KS.out _ _ _ _ _ R3.out ⟨(Kd.R_reads' O6.out).2.2, (Kd.R_reads' O6.out).2.1⟩).mono ?_
    rintro e w7 ⟨rfl, hb⟩
    have HB7 := Aside0.mk (below_step (below_step HB4.out HB6.out) hb)
    clear hb
    go_wp2_with fail
    go_ret
    exact ⟨rfl, HB7.out⟩
  · subst h1 h2
    go_wp2_with fail
    go_ret
    exact ⟨rfl, HB4.out⟩
  · subst h1 h2 h3
    go_wp2_with fail
    go_ret
    exact ⟨rfl, HB4.out⟩
end Go.Proofs.YtcpknmffnglegaaDoor.X

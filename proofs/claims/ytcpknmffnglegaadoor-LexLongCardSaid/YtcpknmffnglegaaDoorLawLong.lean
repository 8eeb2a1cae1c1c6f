/- LexLong: a text of 65536 blanks has no tokens; one blank more is too many. -/
import Derived.Test.YtcpknmffnglegaaDoorXchancellaw02LexLong
import Derived.OpenShut
namespace Go.Proofs.YtcpknmffnglegaaDoor.X
open Go.RowKit Go.Proofs.YtcpknmffnglegaaDoorW.PrintWords
set_option linter.unusedSimpArgs false
set_option linter.unusedVariables false

theorem tokL_blanks : ∀ n : Nat, tokL (List.replicate n 32) = some []
  | 0 => tokL_nil
  | n + 1 => by rw [List.replicate_succ, tokL_blank 32 (.inl rfl), tokL_blanks n]
theorem lexR_blanks (n : Nat) : lexR (List.replicate n 32) = ([], if n > 65536 then 1 else 0) := by
  unfold lexR
  rw [List.length_replicate]
  by_cases h : n > 65536
  · rw [if_pos h, if_pos h]
  · rw [if_neg h, if_neg h, tokL_blanks]
theorem blanks_str (n : Nat) : strOfNums (List.replicate n 32) = B (List.replicate n 32) := by
  unfold strOfNums B
  rw [List.map_replicate]; rfl
theorem long_end (n : Nat) : (if ((((if n > 65536 then (1 : Int) else 0) == 1)) == (decide ((n : Int) > 65536))) = true then (some (((if n > 65536 then (1 : Int) else 0) == 0) == (decide ((n : Int) ≤ 65536)))) else (some false)) = some true := by
  by_cases h : n > 65536
  · rw [if_pos h]
    have h1 : decide ((n : Int) > 65536) = true := by rw [decide_eq_true_eq]; omega
    have h2 : decide ((n : Int) ≤ 65536) = false := by rw [decide_eq_false_iff_not]; omega
    rw [h1, h2]; rfl
  · rw [if_neg h]
    have h1 : decide ((n : Int) > 65536) = false := by rw [decide_eq_false_iff_not]; omega
    have h2 : decide ((n : Int) ≤ 65536) = true := by rw [decide_eq_true_eq]; omega
    rw [h1, h2]; rfl
theorem long_set (n i : Nat) (h : i < n) : (List.replicate i (32 : Int) ++ List.replicate (n - i) 0).set i 32 = List.replicate (i + 1) 32 ++ List.replicate (n - (i + 1)) 0 := by
  obtain ⟨m, rfl⟩ : ∃ m, n = i + 1 + m := ⟨n - (i + 1), by omega⟩
  rw [show i + 1 + m - i = m + 1 by omega, show i + 1 + m - (i + 1) = m by omega, List.replicate_succ (n := m), List.set_append_right _ _ (by simp)]
  simp [List.replicate_succ', List.append_assoc]
theorem long_loop (n : Nat) (hn : n ≤ 65541) (d : Nat) : ∀ (k i : Nat), i ≤ n → n - i = d → 131081 + d < k →
    chancellaw02_LexLong.l0 k true (List.replicate i 32 ++ List.replicate (n - i) 0) (i : Int) = some true := by
  induction d with
  | zero =>
    intro k i h1 h2 h3
    obtain ⟨k, rfl⟩ : ∃ m, k = m + 1 := ⟨k - 1, by omega⟩
    obtain rfl : i = n := by omega
    have hl : (List.replicate i (32 : Int) ++ List.replicate (i - i) 0) = List.replicate i 32 := by simp
    rw [hl]
    simp only [chancellaw02_LexLong.l0]
    rw [if_neg (by simp), blanks_str, lex_eq k _ (by simp; omega) (by omega), lexR_blanks]
    simp only [Option.bind_some, if_true, List.length_nil, List.length_replicate]
    rw [if_pos (by rfl)]
    exact long_end i
  | succ d ih =>
    intro k i h1 h2 h3
    obtain ⟨k, rfl⟩ : ∃ m, k = m + 1 := ⟨k - 1, by omega⟩
    have hgo := ih k (i + 1) (by omega) (by omega) (by omega)
    simp only [chancellaw02_LexLong.l0]
    rw [if_pos (by simp; omega), if_pos (by omega), wrap_id (by omega) (by omega), Int.toNat_natCast, long_set n i (by omega)]
    exact hgo
theorem long_pure : chancellaw02_LexLong.Pure := by
  intro a ha
  have h : 0 ≤ a ∧ a ≤ 255 := Go.bounds_u8 ha
  have hm : Int.tmod a 12 = a % 12 := by rw [Int.tmod_eq_emod_of_nonneg h.1]
  have h1 : wrap64 (Int.tmod a 12) = a % 12 := by rw [hm]; exact wrap_id (by omega) (by omega)
  have h2 : wrap64 (65530 + wrap64 (Int.tmod a 12)) = ((65530 + (a % 12).toNat : Nat) : Int) := by rw [h1, wrap_id (by omega) (by omega)]; omega
  refine ⟨300000, ?_⟩
  unfold chancellaw02_LexLong.f chancellaw02_examples.f
  rw [h2, Int.toNat_natCast]
  simp only [Option.bind_some, if_true]
  rw [if_pos (by omega), if_pos (by omega)]
  have := long_loop (65530 + (a % 12).toNat) (by omega) (65530 + (a % 12).toNat) 300000 0 (by omega) (by omega) (by omega)
  simpa using this
theorem lawLong (a : Int) (ha : (Lit.int .u8 a).wf = true) (w : World) (hG : GL w) :
    Calls Tryd.prog 6 #[.int .u8 a] w fun e w' => e = .returned (.bool true) ∧ Below w.heap.size w w' :=
  chancellaw02_LexLong.walk long_pure a w hG ha
end Go.Proofs.YtcpknmffnglegaaDoor.X

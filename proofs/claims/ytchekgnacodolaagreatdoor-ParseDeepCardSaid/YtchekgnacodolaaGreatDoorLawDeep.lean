/- ParseDeep: parentheses may be nested 200 deep, and terms; not more. -/
import Derived.Test.YtchekgnacodolaaGreatDoorM5D
import Derived.OpenShut
namespace Go.Proofs.YtchekgnacodolaaGreatDoor.X
open Go.RowKit Go.Proofs.YtchekgnacodolaaGreatDoorW.PrintWords Go.Proofs.YtchekgnacodolaaGreatDoorW.PrintLast Go.Proofs.YtchekgnacodolaaGreatDoorW.PrintMore
set_option linter.unusedSimpArgs false
set_option linter.unusedVariables false

def deepA (n : Nat) : List UInt8 := List.replicate n 40 ++ [55] ++ List.replicate n 41
def deepB (n : Nat) : List UInt8 := List.replicate n 33 ++ [55]
theorem deepA_eq : (List.range 12).all (fun j => ((parseR (deepA (195 + j))).2 == if 195 + j > 200 then 1 else 0) && (195 + j > 200 || (parseR (deepA (195 + j))).1.f2 == 7)) = true := by kernel_rfl
theorem deepB_eq : (List.range 12).all (fun j => ((parseR (deepB (195 + j))).2 == if 195 + j > 199 then 1 else 0)) = true := by kernel_rfl
theorem deepA_at (n : Nat) (h : 195 ≤ n) (h' : n < 207) : (parseR (deepA n)).2 = (if n > 200 then 1 else 0) ∧ (n ≤ 200 → (parseR (deepA n)).1.f2 = 7) := by
  have := List.all_eq_true.1 deepA_eq (n - 195) (by simp; omega)
  rw [show 195 + (n - 195) = n by omega] at this
  simp only [Bool.and_eq_true, Bool.or_eq_true, beq_iff_eq, decide_eq_true_eq] at this
  exact ⟨this.1, fun h => this.2.resolve_left (by omega)⟩
theorem deepB_at (n : Nat) (h : 195 ≤ n) (h' : n < 207) : (parseR (deepB n)).2 = (if n > 199 then 1 else 0) := by
  have := List.all_eq_true.1 deepB_eq (n - 195) (by simp; omega)
  rw [show 195 + (n - 195) = n by omega] at this
  simpa using this
theorem B_snoc (n : Nat) (b : UInt8) : B (List.replicate n b) ++ (⟨#[b]⟩ : ByteArray) = B (List.replicate (n + 1) b) := by
  rw [show (⟨#[b]⟩ : ByteArray) = B [b] from rfl, B_append, List.replicate_succ']
set_option maxRecDepth 100000 in
set_option maxHeartbeats 8000000 in
theorem lawDeep (a : Int) (ha : (Lit.int .u8 a).wf = true) (w : World) (hG : GL w) :
    Calls Tryz.prog 4 #[.int .u8 a] w fun e w' => e = .returned (.bool true) ∧ Below w.heap.size w w' := by
  have h : 0 ≤ a ∧ a ≤ 255 := Go.bounds_u8 ha
  have hm : Int.tmod a 12 = a % 12 := by rw [Int.tmod_eq_emod_of_nonneg h.1]
  obtain ⟨n, hn⟩ : ∃ n : Nat, n = 195 + (a % 12).toNat := ⟨_, rfl⟩
  have hn1 : 195 ≤ n := by omega
  have hn2 : n < 207 := by omega
  have HN := Lib.hid (show 195 + a % 12 = (n : Int) by omega)
  clear hn hm
  have K := Lib.hid (exam5C w hG)
  have HG := Lib.hid hG
  clear hG
  go_enter Tryz.func4, Tryz.ntmps4
  go_wp2_with fail
  refine K.out.mono ?_
  rintro e w1 ⟨rfl, hb⟩
  have HG := Lib.hid (HG.out.below hb)
  have HB := Lib.hid hb
  clear hb
  go_wp2_with fail
  go_loopg [5, 6, 7, 8] n (fun gk v5 v6 v7 v8 wr => ∃ i : Nat, i ≤ n ∧ gk = n - i ∧ v5 = .string (B (List.replicate i 40)) ∧ v6 = .string (B (List.replicate i 41)) ∧ v7 = .string (B (List.replicate i 33)) ∧ v8 = .int .i64 i ∧ wr = w1)
  case atStart => exact ⟨0, by omega, by omega, rfl, rfl, rfl, rfl, rfl⟩
  case round =>
    obtain ⟨i, hi, hgk, rfl, rfl, rfl, rfl, rfl⟩ := hrel
    by_cases hlt : i < n
    · have hd : decide ((i : Int) < 195 + a % 12) = true := by rw [decide_eq_true_eq, HN.out]; omega
      have s1 : (9223372036854775807 < (B (List.replicate i 40)).size + 1) = False := eq_false (by rw [B_size, List.length_replicate]; omega)
      have s2 : (9223372036854775807 < (B (List.replicate i 41)).size + 1) = False := eq_false (by rw [B_size, List.length_replicate]; omega)
      have s3 : (9223372036854775807 < (B (List.replicate i 33)).size + 1) = False := eq_false (by rw [B_size, List.length_replicate]; omega)
      go_wp2_with fail
      go_roundg (n - (i + 1))
      case measure => omega
      case rel => exact ⟨i + 1, by omega, rfl, by rw [← B_snoc], by rw [← B_snoc], by rw [← B_snoc], by go_num, rfl⟩
    · have hd : decide ((i : Int) < 195 + a % 12) = false := by rw [decide_eq_false_iff_not, HN.out]; omega
      obtain rfl : i = n := by omega
      have e1 : B (List.replicate i 40) ++ (⟨#[55]⟩ : ByteArray) ++ B (List.replicate i 41) = B (deepA i) := by
        rw [show (⟨#[55]⟩ : ByteArray) = B [55] from rfl, B_append, B_append]; rfl
      have e2 : B (List.replicate i 33) ++ (⟨#[55]⟩ : ByteArray) = B (deepB i) := by
        rw [show (⟨#[55]⟩ : ByteArray) = B [55] from rfl, B_append]; rfl
      have s1 : (9223372036854775807 < (B (List.replicate i 40)).size + 1) = False := eq_false (by rw [B_size, List.length_replicate]; omega)
      have s2 : (9223372036854775807 < (B (List.replicate i 40) ++ (⟨#[55]⟩ : ByteArray)).size + (B (List.replicate i 41)).size) = False := eq_false (by rw [show (⟨#[55]⟩ : ByteArray) = B [55] from rfl, B_append, B_size, B_size]; simp; omega)
      have s2' : (9223372036854775807 < (B (List.replicate i 40)).size + 1 + (B (List.replicate i 41)).size) = False := eq_false (by rw [B_size, B_size]; simp; omega)
      have s3 : (9223372036854775807 < (B (List.replicate i 33)).size + 1) = False := eq_false (by rw [B_size, List.length_replicate]; omega)
      have hgA := deepA_at i hn1 hn2
      have hgB := deepB_at i hn1 hn2
      have KA := parseC (deepA i) (by unfold deepA; simp; omega) wr HG.out
      rw [← e1] at KA
      have KB := Lib.hid (fun w hG => parseC (deepB i) (by unfold deepB; simp; omega) w hG)
      obtain ⟨⟨ta, na⟩, hA⟩ : ∃ p, parseR (deepA i) = p := ⟨_, rfl⟩
      obtain ⟨⟨tb, nb⟩, hB⟩ : ∃ p, parseR (deepB i) = p := ⟨_, rfl⟩
      rw [hA] at KA hgA
      rw [hB] at KB hgB
      simp only at hgA hgB
      have KA := Lib.hid KA
      have E2 := Lib.hid e2
      clear e1 e2 hA hB
      have hcase : (na = 1 ∧ nb = 1 ∧ 200 < i) ∨ (na = 0 ∧ ta.f2 = 7 ∧ nb = 1 ∧ i = 200) ∨ (na = 0 ∧ ta.f2 = 7 ∧ nb = 0 ∧ i ≤ 199) := by
        by_cases h1 : i > 200
        · rw [if_pos h1] at hgA
          rw [if_pos (by omega)] at hgB
          exact .inl ⟨hgA.1, hgB, h1⟩
        · rw [if_neg h1] at hgA
          by_cases h2 : i > 199
          · rw [if_pos h2] at hgB
            exact .inr (.inl ⟨hgA.1, hgA.2 (by omega), hgB, by omega⟩)
          · rw [if_neg h2] at hgB
            exact .inr (.inr ⟨hgA.1, hgA.2 (by omega), hgB, by omega⟩)
      clear hgA hgB
      obtain ⟨tk, tn, ti, tl⟩ := ta
      go_wp2_with fail
      refine KA.out.mono ?_
      rintro e w2 ⟨v, rfl, hv, hb⟩
      obtain ⟨A3, c3, rfl, -, -⟩ := hv
      simp only at *
      have HW := Lib.hid (hb.trans ((below_alloc (Below.refl w2.heap.size w2) (.cells #[.int .i64 tk, .string tn, .int .i64 ti, .slice A3 tl.length c3] 26)).mono hb.size))
      have KB := KB.out _ (HG.out.below HW.out)
      rw [← E2.out] at KB
      have KB := Lib.hid KB
      have O := Own.new w2 #[.int .i64 tk, .string tn, .int .i64 ti, .slice A3 tl.length c3] 26
      have HB := Lib.hid (HB.out.trans (HW.out.mono HB.out.size))
      clear hb
      go_wp2_with fail
      refine KB.out.mono ?_
      rintro e w3 ⟨v, rfl, hv, hb⟩
      obtain ⟨B3, b3, rfl, -, -⟩ := hv
      have hb2 := hb.trans ((below_alloc (Below.refl w3.heap.size w3) (.cells #[.int .i64 tb.f0, .string tb.f1, .int .i64 tb.f2, .slice B3 tb.f3.length b3] 26)).mono hb.size)
      have O := O.keep hb2
      have o2 := O.cell 2
      have HB9 := Lib.hid (HB.out.trans (hb2.mono HB.out.size))
      clear hb hb2
      rcases hcase with ⟨rfl, rfl, h1⟩ | ⟨rfl, rfl, rfl, h1⟩ | ⟨rfl, rfl, rfl, h1⟩
      · have hq : decide (200 < 195 + a % 12) = true := by rw [decide_eq_true_eq, HN.out]; omega
        go_wp2_with fail
        go_ret
        exact ⟨rfl, HB9.out⟩
      · have hq : decide (200 < 195 + a % 12) = false := by rw [decide_eq_false_iff_not, HN.out]; omega
        have hq2 : decide (195 + a % 12 ≤ 199) = false := by rw [decide_eq_false_iff_not, HN.out]; omega
        go_wp2_with fail
        go_ret
        exact ⟨rfl, HB9.out⟩
      · have hq : decide (200 < 195 + a % 12) = false := by rw [decide_eq_false_iff_not, HN.out]; omega
        have hq2 : decide (195 + a % 12 ≤ 199) = true := by rw [decide_eq_true_eq, HN.out]; omega
        go_wp2_with fail
        go_ret
        exact ⟨rfl, HB9.out⟩
end Go.Proofs.YtchekgnacodolaaGreatDoor.X

/- chancel/lex.number: the token of a run of digits. -/
import Derived.Test.YtchekgnacodolaaGreatDoorHlib
import Derived.Lib.AppendIntMem
namespace Go.Proofs.YtchekgnacodolaaGreatDoor.X
set_option linter.unusedSimpArgs false
set_option linter.unusedVariables false
open Go.RowKit Go.Proofs.YtchekgnacodolaaGreatDoorW.PrintWords

/-- Digits, by rounds (the kernel reckons it). -/
def decF : Nat → Nat → List UInt8
  | 0, _ => []
  | k + 1, n => if n < 10 then [UInt8.ofNat (48 + n)] else decF k (n / 10) ++ [UInt8.ofNat (48 + n % 10)]
theorem decF_eq : ∀ k n, n < 10 ^ k → 0 < k → decF k n = Lib.decDigits n
  | 0, _, _, h => absurd h (by omega)
  | k + 1, n, h, _ => by
    rw [Lib.decDigits]
    unfold decF
    split
    · rfl
    · rename_i h10
      rw [decF_eq k (n / 10) (by rw [Nat.pow_succ] at h; omega) (by
        rcases Nat.eq_zero_or_pos k with h0 | h0
        · subst h0; simp at h; omega
        · exact h0)]
def itoaF (n : Int) : List UInt8 := if n < 0 then 45 :: decF 20 n.natAbs else decF 20 n.toNat
theorem itoaF_eq (n : Int) (h0 : -9223372036854775808 ≤ n) (h1 : n ≤ 9223372036854775807) : itoaF n = Lib.itoa n := by
  unfold itoaF Lib.itoa
  split <;> rw [decF_eq _ _ (by omega) (by omega)]

/-- What strconv.ParseInt(s, 10, 32) tells: its number, and is it one whose digits these are? -/
def numOf (s : ByteArray) : Int × Bool := match Lib.parseIntB 32 s.data.toList with
  | .ok v => (v, itoaF v == s.data.toList)
  | .range => (Lib.intSat 32 s.data.toList, false)
  | _ => (0, false)
def lex_number.f (a0 : ByteArray) : Option (Int × ByteArray × Int × Bool) := if a0.size ≤ 281474976710656 then some (2, a0, (numOf a0).1, (numOf a0).2) else none

theorem bcell {W w1 : World} (hb : Below W.heap.size W w1) : (∀ b o, b < W.heap.size → w1.cell? ⟨b, o, none⟩ = W.cell? ⟨b, o, none⟩) ∧ (∀ b o, b < W.heap.size → w1.frozen? ⟨b, o, none⟩ = W.frozen? ⟨b, o, none⟩) :=
  ⟨fun b o h => hb.cell (p := ⟨b, o, none⟩) h, fun b o h => hb.frozen (p := ⟨b, o, none⟩) h⟩

set_option maxHeartbeats 1000000 in
theorem number_ok (a0 : ByteArray) (v : Int) (d : List UInt8) (w : World) (hG : GL w)
    (K1 : ∀ W, GL W → Calls Tryz.prog 150 #[.string a0, .int .i64 10, .int .i64 32] W fun e w' => e = .returned (.tuple #[.int .i64 v, .nilIface]) ∧ Below W.heap.size W w')
    (K2 : ∀ W, GL W → Calls Tryz.prog 81 #[.int .i64 v, .int .i64 10] W fun e w' => e = .returned (.string ⟨d.toArray⟩) ∧ Below W.heap.size W w') :
    Calls Tryz.prog 100 #[.string a0] w fun e w' => e = .returned (.tuple #[.agg #[.int .i64 2, .string a0, .int .i64 v], .bool (d == a0.toList)]) ∧ Below w.heap.size w w' := by
  have HG := Aside0.mk hG
  have H1 := Lib.hid K1
  have H2 := Lib.hid K2
  clear hG K1 K2
  go_enter Tryz.func100, Tryz.ntmps100
  go_wp2_with fail
  refine (H1.out _ (HG.out.alloc _)).mono ?_
  rintro e w1 ⟨rfl, hb⟩
  obtain ⟨hc, hf⟩ := bcell hb
  have hz : w.heap.size < w1.heap.size := by have := hb.size; simp at this; omega
  have HG1 := Aside0.mk ((HG.out.alloc _).below hb)
  have HB := Aside0.mk hb
  clear hb
  go_wp2_with fail
  refine (H2.out _ HG1.out).mono ?_
  rintro e w2 ⟨rfl, hb⟩
  obtain ⟨hc2, hf2⟩ := bcell hb
  have hz2 : w.heap.size < w2.heap.size := Nat.lt_of_lt_of_le hz hb.size
  have HB2 := Aside0.mk hb
  clear hb
  go_wp2_with fail
  refine bodyPost_ret (v := .tuple #[.agg #[.int .i64 2, .string a0, .int .i64 v], .bool (d == a0.toList)]) (by simp [results, Tryz.results100, go_sem, hc2, hc, hz]) rfl ⟨rfl, ?_⟩
  have hB1 := below_then ((Below.refl _ _).alloc (Nat.le_refl _) _) (by simp) HB.out
  have hB2 := below_then hB1 (Nat.le_of_lt hz) HB2.out
  exact ((hB2.setCell (Nat.le_refl _) _).setCell (Nat.le_refl _) _).setCell (Nat.le_refl _) _

set_option maxHeartbeats 1000000 in
theorem number_err (a0 : ByteArray) (v : Int) (w : World) (hG : GL w)
    (K1 : ∀ W, GL W → Calls Tryz.prog 150 #[.string a0, .int .i64 10, .int .i64 32] W fun e w' => ∃ p, e = .returned (.tuple #[.int .i64 v, .iface 269 (.pointer (some p))]) ∧ Below W.heap.size W w') :
    Calls Tryz.prog 100 #[.string a0] w fun e w' => e = .returned (.tuple #[.agg #[.int .i64 2, .string a0, .int .i64 v], .bool false]) ∧ Below w.heap.size w w' := by
  have HG := Aside0.mk hG
  have H1 := Lib.hid K1
  clear hG K1
  go_enter Tryz.func100, Tryz.ntmps100
  go_wp2_with fail
  refine (H1.out _ (HG.out.alloc _)).mono ?_
  rintro e w1 ⟨p, rfl, hb⟩
  obtain ⟨hc, hf⟩ := bcell hb
  have hz : w.heap.size < w1.heap.size := by have := hb.size; simp at this; omega
  have HB := Aside0.mk hb
  clear hb
  go_wp2_with fail
  refine bodyPost_ret (v := .tuple #[.agg #[.int .i64 2, .string a0, .int .i64 v], .bool false]) (by simp [results, Tryz.results100, go_sem, hc, hz]) rfl ⟨rfl, ?_⟩
  have hB1 := below_then ((Below.refl _ _).alloc (Nat.le_refl _) _) (by simp) HB.out
  exact ((hB1.setCell (Nat.le_refl _) _).setCell (Nat.le_refl _) _).setCell (Nat.le_refl _) _

theorem no_digits (s : ByteArray) (hlim : s.size ≤ 281474976710656) {z : Lib.NumEnd Int} (h : Lib.parseIntB 32 s.data.toList = z) (tp : TypeId) (p : Value) (w : World) (hvar : w.var? Tryz.prog "strconv.ErrSyntax" = some #[.iface tp p]) (hz : z = Lib.parseIntB 32 [] := by rfl) :
    Calls Tryz.prog 150 #[.string s, .int .i64 10, .int .i64 32] w fun e w' => ∃ N, e = .returned (.tuple #[.int .i64 0, .iface 269 (.pointer (some ⟨N, 0, none⟩))]) ∧ Below w.heap.size w w' := by
  refine (Any.strconv_ParseInt_10_at32_syntax_var Tryz.laysC174 s hlim (h.trans hz) tp p w hvar).mono ?_
  rintro e w' ⟨N, rfl, _, _, hb⟩
  exact ⟨N, rfl, hb⟩

theorem lex_number.calls (a0 : ByteArray) (r1 : Int) (r2 : ByteArray) (r3 : Int) (r4 : Bool) (w : World) (hG : GL w) (h : lex_number.f a0 = some (r1, r2, r3, r4)) :
    Calls Tryz.prog 100 #[.string a0] w fun e w' => e = .returned (.tuple #[.agg #[.int .i64 r1, .string r2, .int .i64 r3], .bool r4]) ∧ Below w.heap.size w w' := by
  unfold lex_number.f at h
  split at h
  · rename_i hs
    simp only [Option.some.injEq, Prod.mk.injEq] at h
    obtain ⟨rfl, rfl, rfl, rfl⟩ := h
    unfold numOf
    cases hP : Lib.parseIntB 32 a0.data.toList with
    | ok v =>
      have hv := Lib.parseIntB_bounds hP
      rw [show (2 ^ (32 - 1) : Nat) = 2147483648 from rfl] at hv
      have e1 : a0.data.toList = a0.toList := (ByteArray.toList_eq a0).symm
      rw [e1]
      refine number_ok a0 v (itoaF v) w hG (fun W hW => ?_) (fun W hW => ?_)
      · refine (Tryz.strconv_ParseInt_10_at32_ok a0 (by omega) v hP W).mono ?_
        rintro e w' ⟨rfl, hw⟩
        refine ⟨rfl, ?_⟩
        rcases hw with rfl | ⟨t, rfl⟩
        · exact Below.refl _ _
        · exact bytes_below (Below.refl _ _) (Nat.le_refl _) _ _
      · rw [itoaF_eq v (by omega) (by omega)]
        refine (Tryz.strconv_FormatInt_10 v (by omega) (by omega) W hW.pow).mono ?_
        rintro e w' ⟨rfl, k, os, rfl⟩
        exact ⟨rfl, Lib.below_grow _ _ (Nat.le_refl _) _ _⟩
    | range =>
      refine number_err a0 _ w hG (fun W hW => ?_)
      obtain ⟨tp, p, hp⟩ := hW.eran
      refine (Tryz.strconv_ParseInt_10_at32_range_var a0 hs hP tp p W hp).mono ?_
      rintro e w' ⟨N, rfl, _, _, hb⟩
      exact ⟨_, rfl, hb⟩
    | _ =>
      refine number_err a0 0 w hG (fun W hW => ?_)
      obtain ⟨tp, p, hp⟩ := hW.esyn
      refine (no_digits a0 hs hP tp p W hp).mono ?_
      rintro e w' ⟨N, rfl, hb⟩
      exact ⟨_, rfl, hb⟩
  · cases h
end Go.Proofs.YtchekgnacodolaaGreatDoor.X

/- chancel/lex's contracts, with what they tell in plain words; and chapter 2's examples. -/
import Derived.Test.YtchekgnacodolaaGreatDoorLexQ
namespace Go.Proofs.YtchekgnacodolaaGreatDoor.X
open Go.RowKit Go.Proofs.YtchekgnacodolaaGreatDoorW.PrintWords
set_option linter.unusedSimpArgs false
set_option linter.unusedVariables false

/-! ### Print -/
theorem join_print : ∀ l : List TokT, Lib.join (l.map fun t => t.f1.data.toList) [32] = printL l
  | [] => by simp [Lib.join, printL]
  | [t] => by simp [Lib.join, printL, List.intercalate]
  | t :: u :: l => by
    have ih := join_print (u :: l)
    unfold Lib.join at ih ⊢
    rw [printL, ← ih]
    simp [List.intercalate, List.intersperse]
theorem print_loop (l : List TokT) (hl : l.length < 8796093022208) (hp : (printL l).length ≤ 140737488355328) (d : Nat) : ∀ (k i : Nat), i ≤ l.length → l.length - i = d → d < k →
    lex_Print.l0 k ((l.take i).map (·.f1)) l (l.length : Int) (i : Int) = some (B (printL l)) := by
  induction d with
  | zero =>
    intro k i h1 h2 h3
    obtain ⟨k, rfl⟩ : ∃ m, k = m + 1 := ⟨k - 1, by omega⟩
    have hi : i = l.length := by omega
    subst hi
    simp only [lex_Print.l0]
    rw [if_neg (by omega), List.take_length]
    unfold strings_Join.f
    have hj : (l.map (·.f1)).map (·.data.toList) = l.map fun t => t.f1.data.toList := by rw [List.map_map]; rfl
    rw [hj, show (⟨#[32]⟩ : ByteArray).data.toList = [32] from rfl, join_print l, if_pos ⟨by rw [List.length_map]; omega, hp⟩]
    rfl
  | succ d ih =>
    intro k i h1 h2 h3
    obtain ⟨k, rfl⟩ : ∃ m, k = m + 1 := ⟨k - 1, by omega⟩
    have hlt : i < l.length := by omega
    have hgo := ih k (i + 1) (by omega) (by omega) (by omega)
    simp only [lex_Print.l0]
    rw [if_pos (by omega), if_pos (by omega), if_pos (by omega), if_pos (by rw [List.length_map, List.length_take]; omega)]
    rw [wrap_id (by omega) (by omega)]
    have h4 : (l.take i).map (·.f1) ++ [(rd_T106 l (i : Int)).f1] = (l.take (i + 1)).map (·.f1) := by
      rw [List.take_succ_eq_append_getElem hlt, List.map_append]
      unfold rd_T106
      simp [List.getD_eq_getElem?_getD, List.getElem?_eq_getElem hlt]
    rw [h4]
    exact hgo
theorem print_eq (k : Nat) (l : List TokT) (hl : l.length < 8796093022208) (hk : l.length < k) (hp : (printL l).length ≤ 140737488355328) : lex_Print.f k l = some (B (printL l)) := by
  unfold lex_Print.f
  have := print_loop l hl hp l.length k 0 (by omega) (by omega) hk
  simpa using this
theorem printL_len : ∀ l : List TokT, (printL l).length ≤ (l.map fun t => t.f1.size + 1).sum
  | [] => by simp [printL]
  | [t] => by
    show t.f1.data.toList.length ≤ (t.f1.size + 1) + 0
    rw [← size_len]; omega
  | t :: u :: l => by
    have := printL_len (u :: l)
    rw [printL, List.map_cons, List.sum_cons, List.length_append, List.length_cons, size_len t.f1]
    omega

/-! ### the contracts -/
abbrev Reads (w : World) (A : Option Addr) (c : Nat) (l : List TokT) : Prop := Kd.C k106 w A l.length l ∧ l.length ≤ c
theorem lexC (l : List UInt8) (hl : l.length ≤ 9223372036854775807) (w : World) (hG : GL w) :
    Calls Tryz.prog 26 #[.string (B l)] w fun e w' => ∃ A c, e = .returned (.tuple #[.slice A (lexR l).1.length c, .int .i64 (lexR l).2]) ∧ Reads w' A c (lexR l).1 ∧ (0 < (lexR l).1.length → ∃ g, A = some ⟨g, 0, none⟩) ∧ Below w.heap.size w w' := by
  refine (lex_Lex.calls 131081 (B l) (lexR l).1 (lexR l).2 w hG (lex_eq _ l hl (by omega))).mono ?_
  rintro e w' ⟨v, rfl, hR, hb⟩
  obtain ⟨A, c, rfl, hc, hC⟩ := Kd.R_reads hR
  refine ⟨A, c, rfl, ⟨hC, hc⟩, fun hp => ?_, hb⟩
  obtain ⟨g, cap, hv, -⟩ := Kd.R_form hR hp
  injection hv with hv
  exact ⟨g, hv⟩
theorem printC (l : List TokT) (A : Option Addr) (c : Nat) (hl : l.length < 8796093022208) (hp : (printL l).length ≤ 140737488355328) (w : World) (hr : Reads w A c l) :
    Calls Tryz.prog 64 #[.slice A l.length c] w fun e w' => e = .returned (.string (B (printL l))) ∧ Below w.heap.size w w' :=
  lex_Print.calls (l.length + 1) A c l (B (printL l)) w hr.1 hr.2 (print_eq _ l hl (by omega) hp)
theorem rightC (l : List TokT) (A : Option Addr) (c : Nat) (hs : ∀ t ∈ l, t.f1.size ≤ 281474976710656) (w : World) (hG : GL w) (hr : Reads w A c l) :
    Calls Tryz.prog 28 #[.slice A l.length c] w fun e w' => e = .returned (.bool (l.all rightT)) ∧ Below w.heap.size w w' :=
  lex_Right.calls 281474976710657 A c l (l.all rightT) w hG hr.1 hr.2 (right_eq _ l fun t ht => ⟨hs t ht, by have := hs t ht; omega⟩)
theorem keywordC (s : ByteArray) (w : World) (hG : GL w) :
    Calls Tryz.prog 110 #[.string s] w fun e w' => e = .returned (.bool (isKey s)) ∧ Below w.heap.size w w' := by
  refine (lex_Keyword.calls s (isKey s) w hG rfl).mono ?_
  rintro e w' ⟨rfl, hd⟩
  exact ⟨rfl, hd.below⟩
theorem nameC (l : List UInt8) (hl : l.length ≤ 9223372036854775806) (w : World) :
    Calls Tryz.prog 109 #[.string (B l)] w fun e w' => e = .returned (.bool (nameL l)) ∧ Below w.heap.size w w' := by
  refine (lat_Name.calls (l.length + 1) (B l) (nameL l) w (name_eq l hl _ (by omega))).mono ?_
  rintro e w' ⟨rfl, hd⟩
  exact ⟨rfl, hd.below⟩
theorem Reads.at_ {w : World} {g c : Nat} {l : List TokT} (h : Reads w (some ⟨g, 0, none⟩) c l) (i : Nat) (x : TokT) (hx : l[i]? = some x) :
    w.cell? ⟨g, i * 3, none⟩ = some (.int .i64 x.f0) ∧ w.cell? ⟨g, i * 3 + 1, none⟩ = some (.string x.f1) ∧ w.cell? ⟨g, i * 3 + 2, none⟩ = some (.int .i64 x.f2) := by
  have hlt : i < l.length := by
    rcases Nat.lt_or_ge i l.length with h1 | h1
    · exact h1
    · rw [List.getElem?_eq_none h1] at hx; cases hx
  obtain ⟨ad, e, h0, h1, h2⟩ := at_T106 h.1 (i : Int) (by omega) (by omega)
  cases e
  have hr : rd_T106 l (i : Int) = x := by
    unfold rd_T106
    rw [Int.toNat_natCast, List.getD_eq_getElem?_getD, hx]; rfl
  rw [hr] at h0 h1 h2
  rw [Int.toNat_natCast, add_plain] at h0 h1 h2
  exact ⟨h0, h1, h2⟩
theorem Reads.below {w w1 : World} {A : Option Addr} {c : Nat} {l : List TokT} (h : Reads w A c l) (hb : Below w.heap.size w w1) : Reads w1 A c l := ⟨Kd.C_below h.1 hb, h.2⟩

/-! ### same -/
def sameT (a b : TokT) : Bool := a.f0 == b.f0 && (a.f1.toList == b.f1.toList && a.f2 == b.f2)
theorem sameT_iff (a b : TokT) : sameT a b = true ↔ a = b := by
  obtain ⟨a0, a1, a2⟩ := a
  obtain ⟨b0, b1, b2⟩ := b
  simp only [sameT, Bool.and_eq_true, beq_iff_eq, S106.mk.injEq, ByteArray.toList_eq]
  constructor
  · rintro ⟨h0, h1, h2⟩
    refine ⟨h0, ?_, h2⟩
    rw [← B_of a1, ← B_of b1, h1]
  · rintro ⟨rfl, rfl, rfl⟩
    exact ⟨rfl, rfl, rfl⟩
def sameL : List TokT → List TokT → Bool
  | [], [] => true
  | a :: l, b :: m => sameT a b && sameL l m
  | _, _ => false
theorem sameL_iff : ∀ (l m : List TokT), sameL l m = true ↔ l = m
  | [], [] => by simp [sameL]
  | [], b :: m => by simp [sameL]
  | a :: l, [] => by simp [sameL]
  | a :: l, b :: m => by rw [sameL, Bool.and_eq_true, sameT_iff, sameL_iff l m]; simp
theorem same_self (l : List TokT) : sameL l l = true := (sameL_iff l l).2 rfl

/-! ### the chapter's examples -/
def exA : List TokT := [⟨3, B [108, 101, 116], 0⟩, ⟨1, B [120, 49], 0⟩, ⟨4, B [61, 62], 0⟩, ⟨4, B [58, 61], 0⟩, ⟨2, B [49, 50], 12⟩, ⟨4, B [40], 0⟩, ⟨4, B [33], 0⟩, ⟨3, B [102, 117, 110], 0⟩]
theorem exA_lex : lexR [108, 101, 116, 32, 120, 49, 61, 62, 58, 61, 32, 49, 50, 40, 35, 32, 110, 111, 10, 33, 102, 117, 110] = (exA, 0) := by kernel_rfl
theorem exB_lex : lexR [120, 58, 61, 62, 49] = ([], 2) := by kernel_rfl
theorem exC_lex : lexR [48, 49, 50] = ([], 2) := by kernel_rfl
theorem exD_lex : lexR [63] = ([], 2) := by kernel_rfl
theorem exA_right : exA.all rightT = true := by kernel_rfl
theorem exA_print : printL exA = [108, 101, 116, 32, 120, 49, 32, 61, 62, 32, 58, 61, 32, 49, 50, 32, 40, 32, 33, 32, 102, 117, 110] := by kernel_rfl
theorem exWith : isKey ⟨#[119, 105, 116, 104]⟩ = true := by kernel_rfl
theorem exX : isKey ⟨#[120]⟩ = false := by kernel_rfl
end Go.Proofs.YtchekgnacodolaaGreatDoor.X

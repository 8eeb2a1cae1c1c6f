import Derived.Test.YtcpknmffnglegaaDoorLexQ
import Derived.Test.YtcpknmffnglegaaDoorXchancelref02Lex
import Derived.Test.YtcpknmffnglegaaDoorXchancelref02Right
import Derived.Lib.ItoaNum
import Derived.Lib.ItoaMem
import Derived.Test.YtcpknmffnglegaaDoorMTellsA
import Derived.Test.YtcpknmffnglegaaDoorLawRight
import Derived.Test.YtcpknmffnglegaaDoorLexC
import Derived.Test.YtcpknmffnglegaaDoorRows
import Derived.Deep.Strs
import Derived.ChangeArms
import Derived.Test.YtcpknmffnglegaaDoorExam
/- The document's own answer to chapter 2, in plain words (1): names, keywords, numbers, marks, words. -/
namespace Go.Proofs.YtcpknmffnglegaaDoor.X
open Go.RowKit Go.Proofs.YtcpknmffnglegaaDoorW.PrintWords
set_option linter.unusedSimpArgs false
set_option linter.unusedVariables false

theorem rdOf_get (l : List ByteArray) (i : Nat) (h : i < l.length) : rdOf ByteArray.empty l (i : Int) = l[i] := by
  unfold rdOf; simp [List.getD_eq_getElem?_getD, List.getElem?_eq_getElem h]

/-! ### among some -/
theorem has_loop (l : List ByteArray) (s : ByteArray) (hl : l.length ≤ 1000) (d : Nat) : ∀ (k i : Nat), i ≤ l.length → l.length - i = d → d < k →
    chancelref02_Has.l0 k l s (i : Int) = some ((l.drop i).any fun x => x.data.toList == s.data.toList) := by
  induction d with
  | zero =>
    intro k i h1 h2 h3
    obtain ⟨k, rfl⟩ : ∃ m, k = m + 1 := ⟨k - 1, by omega⟩
    obtain rfl : i = l.length := by omega
    simp only [chancelref02_Has.l0]
    rw [if_neg (by omega), List.drop_length]; rfl
  | succ d ih =>
    intro k i h1 h2 h3
    obtain ⟨k, rfl⟩ : ∃ m, k = m + 1 := ⟨k - 1, by omega⟩
    have hlt : i < l.length := by omega
    have hgo := ih k (i + 1) (by omega) (by omega) (by omega)
    simp only [chancelref02_Has.l0]
    rw [if_pos (by omega), if_pos (by omega), rdOf_get l i hlt, wrap_id (by omega) (by omega), List.drop_eq_getElem_cons hlt, List.any_cons, ByteArray.toList_eq, ByteArray.toList_eq]
    by_cases h : l[i].data.toList = s.data.toList
    · rw [if_pos h, h]; simp
    · rw [if_neg h]
      have : (l[i].data.toList == s.data.toList) = false := by simpa using h
      rw [this]; exact hgo
theorem has_eq (l : List ByteArray) (s : ByteArray) (hl : l.length ≤ 1000) (k : Nat) (hk : l.length < k) : chancelref02_Has.f k l s = some (l.any fun x => x.data.toList == s.data.toList) :=
  has_loop l s hl l.length k 0 (by omega) (by omega) hk
theorem refKey_eq (s : ByteArray) (k : Nat) (hk : 20 < k) : chancelref02_Keyword.f k s = some (isKey s) := by
  have := has_eq keyWords s (by decide) k (Nat.lt_trans (by decide) hk)
  unfold chancelref02_Keyword.f
  show (chancelref02_Has.f k keyWords s).bind _ = _
  rw [this]; rfl

/-! ### names -/
theorem refName_loop (l : List UInt8) (hl : l.length ≤ 16) (d : Nat) : ∀ (k i : Nat), i ≤ l.length → l.length - i = d → d < k →
    chancelref01_Name.l0 k (B l) (i : Int) = some (nameFrom i (l.drop i)) := by
  induction d with
  | zero =>
    intro k i h1 h2 h3
    obtain ⟨k, rfl⟩ : ∃ m, k = m + 1 := ⟨k - 1, by omega⟩
    obtain rfl : i = l.length := by omega
    simp only [chancelref01_Name.l0]
    rw [if_neg (by rw [B_size]; omega), List.drop_length]
    cases h : l.length <;> rfl
  | succ d ih =>
    intro k i h1 h2 h3
    obtain ⟨k, rfl⟩ : ∃ m, k = m + 1 := ⟨k - 1, by omega⟩
    have hlt : i < l.length := by omega
    have hgo := ih k (i + 1) (by omega) (by omega) (by omega)
    simp only [chancelref01_Name.l0]
    rw [if_pos (by rw [B_size]; omega), if_pos (by omega), bt_B l i hlt, wrap_id (by omega) (by omega)]
    have hd : l.drop i = l[i] :: l.drop (i + 1) := List.drop_eq_getElem_cons hlt
    rw [hd]
    have hnf : nameFrom (i + 1) (l.drop (i + 1)) = (l.drop (i + 1)).all isWord := by
      cases h : l.drop (i + 1) <;> simp [nameFrom]
    rw [hnf] at hgo
    rw [show ((i : Int) + 1) = ((i + 1 : Nat) : Int) from rfl, hgo]
    generalize hb : l[i] = b
    have key : nameFrom i (b :: l.drop (i + 1)) = ((if i = 0 then isLet b else isWord b) && (l.drop (i + 1)).all isWord) := by
      cases i with
      | zero => simp [nameFrom]
      | succ i => simp [nameFrom]
    rw [key]
    generalize (l.drop (i + 1)).all isWord = q
    by_cases hL : isLet b = true
    · have hW : isWord b = true := by simp [isWord, hL]
      rw [hL, hW]
      have hr : (if i = 0 then true else true) = true := by split <;> rfl
      rw [hr, Bool.true_and]
      have hc : (97 ≤ b.toNat ∧ b.toNat ≤ 122) ∨ (65 ≤ b.toNat ∧ b.toNat ≤ 90) := by simpa [isLet] using hL
      rcases hc with ⟨h1, h2⟩ | ⟨h1, h2⟩
      · rw [if_pos (by omega), if_pos (by omega), if_pos (by omega)]
      · rw [if_neg (by omega), if_pos (by omega), if_pos (by omega), if_pos (by omega)]
    · have hL' : isLet b = false := by simpa using hL
      have hc : ¬ ((97 ≤ b.toNat ∧ b.toNat ≤ 122) ∨ (65 ≤ b.toNat ∧ b.toNat ≤ 90)) := by simpa [isLet] using hL
      by_cases hD : isDig b = true
      · have hW : isWord b = true := by simp [isWord, hD]
        have hc2 : 48 ≤ b.toNat ∧ b.toNat ≤ 57 := by simpa [isDig] using hD
        rw [hL', hW, if_neg (by omega), if_neg (by omega), if_pos (by omega)]
        by_cases h0 : i = 0
        · subst h0; simp
        · rw [if_neg (by omega), if_pos (by omega), if_neg h0]; simp
      · have hW : isWord b = false := by simp [isWord, hL', hD]
        have hc2 : ¬ (48 ≤ b.toNat ∧ b.toNat ≤ 57) := by simpa [isDig] using hD
        rw [hL', hW]
        have hr : (if i = 0 then false else false) = false := by split <;> rfl
        rw [hr, Bool.false_and]
        (repeat' split) <;> first | rfl | omega
theorem refName_eq (l : List UInt8) (k : Nat) (hk : 30 < k) : chancelref01_Name.f k (B l) = some (nameL l) := by
  obtain ⟨k, rfl⟩ : ∃ m, k = m + 1 := ⟨k - 1, by omega⟩
  unfold chancelref01_Name.f
  rw [B_size]
  cases l with
  | nil => rfl
  | cons b r =>
    rw [if_neg (by simp; omega)]
    simp only [chancelref01_Name.j0]
    by_cases h : (b :: r).length ≤ 16
    · rw [if_neg (by simp at h ⊢; omega)]
      have := refName_loop (b :: r) h (b :: r).length k 0 (by omega) (by omega) (by omega)
      rw [show ((0 : Nat) : Int) = 0 from rfl] at this
      rw [this, List.drop_zero]
      have h' : decide ((b :: r).length ≤ 16) = true := by simpa using h
      show some (isLet b && r.all isWord) = some (isLet b && r.all isWord && decide ((b :: r).length ≤ 16))
      rw [h', Bool.and_true]
    · rw [if_pos (by simp at h ⊢; omega)]
      have h' : decide ((b :: r).length ≤ 16) = false := by simpa using h
      show _ = some (isLet b && r.all isWord && decide ((b :: r).length ≤ 16))
      rw [h', Bool.and_false]

/-! ### numbers -/
def valD (acc : Nat) : List UInt8 → Nat
  | [] => acc
  | c :: r => valD (acc * 10 + (c.toNat - 48)) r
theorem valD_snoc (l : List UInt8) : ∀ (acc : Nat) (c : UInt8), valD acc (l ++ [c]) = valD acc l * 10 + (c.toNat - 48) := by
  induction l with
  | nil => intro acc c; rfl
  | cons b l ih => intro acc c; exact ih _ c
theorem valD_le (l : List UInt8) : ∀ acc, acc ≤ valD acc l := by
  induction l with
  | nil => intro acc; exact Nat.le_refl _
  | cons b l ih => intro acc; exact Nat.le_trans (by omega) (ih _)
theorem dec_val (n : Nat) : valD 0 (Lib.decDigits n) = n := by
  induction n using Nat.strongRecOn with
  | ind n ih =>
    rw [Lib.decDigits]
    split
    · rename_i h
      show (0 * 10 + ((UInt8.ofNat (48 + n)).toNat - 48)) = n
      rw [UInt8.toNat_ofNat']; omega
    · rename_i h
      rw [valD_snoc, ih (n / 10) (by omega), UInt8.toNat_ofNat']; omega
theorem dec_F (v : Nat) (h : v < 10000000000) : Lib.decDigits v = decF 10 v := (decF_eq 10 v (by omega) (by omega)).symm
theorem decF_len : ∀ k n, (decF k n).length ≤ k
  | 0, _ => by simp [decF]
  | k + 1, n => by
    unfold decF
    split
    · simp
    · have := decF_len k (n / 10)
      simp; omega
theorem uintM_ok (M : Nat) (hM : M ≤ 4294967295) : ∀ (l : List UInt8) (acc : Nat), l.all isDig = true → valD acc l ≤ M → Lib.parseUintM M acc l = .ok (valD acc l)
  | [], _, _, _ => rfl
  | c :: l, acc, h, hv => by
    simp only [List.all_cons, Bool.and_eq_true] at h
    have hc : 48 ≤ c.toNat ∧ c.toNat ≤ 57 := by simpa [isDig] using h.1
    have hle := valD_le l (acc * 10 + (c.toNat - 48))
    have hv' : valD (acc * 10 + (c.toNat - 48)) l ≤ M := hv
    rw [Lib.parseUintM, if_pos hc, if_neg (by omega), if_neg (by omega), uintM_ok M hM l _ h.2 hv']; rfl
theorem parse_dec (v : Nat) (h : v < 2147483648) : Lib.parseIntB 32 (Lib.decDigits v) = .ok (v : Int) := by
  have hF := dec_F v (by omega)
  have hd : (Lib.decDigits v).all isDig = true := by rw [hF]; exact decF_dig _ _
  have hne : Lib.decDigits v ≠ [] := by rw [hF]; exact decF_ne _ _
  have hv := dec_val v
  cases hl : Lib.decDigits v with
  | nil => exact absurd hl hne
  | cons c r =>
    rw [hl] at hd hv
    have hd' := hd
    simp only [List.all_cons, Bool.and_eq_true] at hd'
    have hc : 48 ≤ c.toNat ∧ c.toNat ≤ 57 := by simpa [isDig] using hd'.1
    unfold Lib.parseIntB
    simp only
    rw [if_neg (by omega)]
    unfold Lib.parseUintB
    rw [if_neg (by simp), uintM_ok _ (by decide) _ _ hd (by rw [hv]; exact Nat.le_trans (Nat.le_of_lt h) (by decide)), hv]
    have h31 : (2 : Nat) ^ (32 - 1) = 2147483648 := by decide
    simp only [h31]
    rw [if_neg (by omega), if_neg (by omega), if_neg (by omega)]
theorem num_dec (v : Nat) (h : v < 2147483648) : numOf (B (Lib.decDigits v)) = ((v : Int), true) := by
  unfold numOf
  rw [B_list, parse_dec v h]
  have : itoaF (v : Int) = Lib.decDigits v := by
    unfold itoaF
    rw [if_neg (by omega), decF_eq 20 _ (by omega) (by omega)]; rfl
  simp [this]
theorem num_iff (d : List UInt8) : ((numOf (B d)).2 = true ∧ 0 ≤ (numOf (B d)).1) ↔ ∃ v : Nat, v < 2147483648 ∧ d = Lib.decDigits v := by
  constructor
  · rintro ⟨h, h0⟩
    unfold numOf at h h0
    cases hp : Lib.parseIntB 32 (B d).data.toList with
    | ok v =>
      rw [hp] at h h0
      simp only at h h0
      have e : itoaF v = d := by simpa [B_list] using h
      have hb := Lib.parseIntB_bounds hp
      have h31 : ((2 : Nat) ^ (32 - 1) : Nat) = 2147483648 := by decide
      rw [h31] at hb
      unfold itoaF at e
      rw [if_neg (by omega), decF_eq 20 _ (by omega) (by omega)] at e
      exact ⟨v.toNat, by omega, e.symm⟩
    | _ => rw [hp] at h; cases h
  · rintro ⟨v, h, rfl⟩
    rw [num_dec v h]
    exact ⟨rfl, by simp⟩
def goodNum (l : List UInt8) : Bool := decide (1 ≤ l.length) && decide (l.length ≤ 10) && l.all isDig && decide (valD 0 l < 2147483648) && (Lib.decDigits (valD 0 l) == l)
theorem goodNum_iff (l : List UInt8) : goodNum l = true ↔ ∃ v : Nat, v < 2147483648 ∧ l = Lib.decDigits v := by
  constructor
  · intro h
    simp only [goodNum, Bool.and_eq_true, decide_eq_true_eq, beq_iff_eq] at h
    exact ⟨valD 0 l, h.1.2, h.2.symm⟩
  · rintro ⟨v, h, rfl⟩
    have hF := dec_F v (by omega)
    have h1 : (Lib.decDigits v).length ≤ 10 := by rw [hF]; exact decF_len _ _
    have h2 : 1 ≤ (Lib.decDigits v).length := by
      rw [hF]
      cases hc : decF 10 v with
      | nil => exact absurd hc (decF_ne _ _)
      | cons => simp
    have h3 : (Lib.decDigits v).all isDig = true := by rw [hF]; exact decF_dig _ _
    simp only [goodNum, Bool.and_eq_true, decide_eq_true_eq, beq_iff_eq, dec_val]
    exact ⟨⟨⟨⟨h2, h1⟩, h3⟩, h⟩, trivial⟩
/-- The code's number and the document's: of a text that is one of no sign. -/
theorem num_good (d : List UInt8) : ((numOf (B d)).2 && decide (0 ≤ (numOf (B d)).1)) = goodNum d := by
  rw [Bool.eq_iff_iff, Bool.and_eq_true, decide_eq_true_eq, num_iff, goodNum_iff]
theorem num_val {d : List UInt8} (h : goodNum d = true) : (numOf (B d)).1 = (valD 0 d : Int) := by
  obtain ⟨v, hv, rfl⟩ := (goodNum_iff d).1 h
  rw [num_dec v hv, dec_val]

theorem digits_loop : ∀ (j k n : Nat) (acc : List UInt8), n < 9223372036854775808 → n < 10 ^ j → 0 < j → j ≤ k → j + acc.length ≤ 1000 →
    chancelref02_Digits.l0 k (n : Int) (B acc) = some (B (Lib.decDigits n ++ acc)) := by
  intro j
  induction j with
  | zero => intro k n acc h0 h1 h2; omega
  | succ j ih =>
    intro k n acc hn hj h0 hk ha
    obtain ⟨k, rfl⟩ : ∃ m, k = m + 1 := ⟨k - 1, by omega⟩
    have one : ∀ m : Nat, m < 10 → strOfNums [(wrap64 (48 + (m : Int))) % 256] = B [UInt8.ofNat (48 + m)] := by
      intro m hm
      rw [wrap_id (by omega) (by omega)]
      unfold strOfNums B
      congr 1
      simp only [List.map_cons, List.map_nil]
      congr 2
      rw [show ((48 + (m : Int)) % 256).toNat = 48 + m by omega]
    simp only [chancelref02_Digits.l0]
    rw [Lib.decDigits]
    by_cases h : n < 10
    · rw [dif_pos h, if_neg (by omega), Option.bind_some, one n h, if_pos (by rw [B_size, B_size, List.length_singleton]; omega), B_append]
    · rw [dif_neg h, if_pos (by omega), Option.bind_some]
      have h1 : Int.tmod (n : Int) 10 = ((n % 10 : Nat) : Int) := by rw [Int.tmod_eq_emod_of_nonneg (by omega)]; omega
      have h2 : Int.tdiv (n : Int) 10 = ((n / 10 : Nat) : Int) := by rw [Int.tdiv_eq_ediv_of_nonneg (by omega)]; omega
      rw [h1, h2, one (n % 10) (by omega), if_pos (by rw [B_size, B_size]; simp; omega), B_append, wrap_id (by omega) (by omega)]
      have hj0 : 0 < j := by
        rcases Nat.eq_zero_or_pos j with h0 | h0
        · subst h0; simp at hj; omega
        · exact h0
      rw [ih k (n / 10) _ (by omega) (by rw [Nat.pow_succ] at hj; omega) hj0 (by omega) (by simp; omega)]
      simp
theorem refNum_loop (l : List UInt8) (hl : l.length ≤ 10) (d : Nat) : ∀ (k i : Nat), i ≤ l.length → l.length - i = d → (l.take i).all isDig = true → valD 0 (l.take i) < 10 ^ i → 30 + d < k →
    chancelref02_Number.l0 k (B l) (valD 0 (l.take i) : Int) (i : Int) = some (if (l.all isDig && decide (valD 0 l < 2147483648) && (Lib.decDigits (valD 0 l) == l)) = true then ((valD 0 l : Int), true) else (0, false)) := by
  have hpow : ∀ j, j ≤ 10 → (10 : Nat) ^ j ≤ 10000000000 := fun j hj => Nat.le_trans (Nat.pow_le_pow_right (by omega) hj) (by decide)
  induction d with
  | zero =>
    intro k i h1 h2 ha hv h3
    obtain ⟨k, rfl⟩ : ∃ m, k = m + 1 := ⟨k - 1, by omega⟩
    obtain rfl : i = l.length := by omega
    rw [List.take_length] at ha hv ⊢
    have := hpow _ hl
    simp only [chancelref02_Number.l0]
    rw [if_neg (by rw [B_size]; omega), ha, Bool.true_and]
    by_cases h31 : valD 0 l < 2147483648
    · rw [if_neg (by omega)]
      unfold chancelref02_Digits.f
      rw [show (⟨#[]⟩ : ByteArray) = B [] from rfl, digits_loop 10 k _ [] (by omega) (by omega) (by omega) (by omega) (by simp), Option.bind_some, B_toList, B_toList, List.append_nil]
      have e1 : decide (valD 0 l < 2147483648) = true := by simpa using h31
      rw [e1, Bool.true_and]
      by_cases hs : Lib.decDigits (valD 0 l) = l
      · rw [if_pos hs, if_pos (by simpa using hs)]
      · rw [if_neg hs, if_neg (by simpa using hs)]
    · rw [if_pos (by omega)]
      have e1 : decide (valD 0 l < 2147483648) = false := by simpa using h31
      rw [e1, Bool.false_and, if_neg (by simp)]
  | succ d ih =>
    intro k i h1 h2 ha hv h3
    obtain ⟨k, rfl⟩ : ∃ m, k = m + 1 := ⟨k - 1, by omega⟩
    have hlt : i < l.length := by omega
    have := hpow i (by omega)
    simp only [chancelref02_Number.l0]
    rw [if_pos (by rw [B_size]; omega), if_pos (by omega), bt_B l i hlt]
    have hn : ∀ b : UInt8, b ∈ l → isDig b = false → l.all isDig = false := by
      intro b hb hd
      rw [Bool.eq_false_iff]
      intro h
      rw [List.all_eq_true.1 h b hb] at hd; cases hd
    by_cases h48 : (l[i].toNat : Int) < 48
    · rw [if_pos h48, hn _ (List.getElem_mem hlt) (by simp [isDig]; omega)]; rfl
    · rw [if_neg h48]
      by_cases h57 : (l[i].toNat : Int) > 57
      · rw [if_pos h57, hn _ (List.getElem_mem hlt) (by simp [isDig]; omega)]; rfl
      · rw [if_neg h57]
        have hd : isDig l[i] = true := by simp [isDig]; omega
        have ht : l.take (i + 1) = l.take i ++ [l[i]] := List.take_succ_eq_append_getElem hlt
        have hval : valD 0 (l.take (i + 1)) = valD 0 (l.take i) * 10 + (l[i].toNat - 48) := by rw [ht, valD_snoc]
        have hlt2 : valD 0 (l.take (i + 1)) < 10 ^ (i + 1) := by rw [hval, Nat.pow_succ]; omega
        have hgo := ih k (i + 1) (by omega) (by omega) (by rw [ht, List.all_append, ha]; simp [hd]) hlt2 (by omega)
        rw [wrap_id (x := (valD 0 (l.take i) : Int) * 10) (by omega) (by omega), wrap_id (by omega) (by omega), wrap_id (x := (i : Int) + 1) (by omega) (by omega)]
        rw [show ((valD 0 (l.take i) : Int) * 10 + ((l[i].toNat : Int) - 48) % 256) = ((valD 0 (l.take (i + 1)) : Nat) : Int) by rw [hval]; omega]
        exact hgo
theorem refNum_eq (l : List UInt8) (k : Nat) (hk : 100 < k) : chancelref02_Number.f k (B l) = some (if goodNum l = true then ((valD 0 l : Int), true) else (0, false)) := by
  obtain ⟨k, rfl⟩ : ∃ m, k = m + 1 := ⟨k - 1, by omega⟩
  unfold chancelref02_Number.f
  rw [B_size]
  by_cases h1 : 1 ≤ l.length
  · rw [if_neg (by omega)]
    simp only [chancelref02_Number.j0]
    by_cases h2 : l.length ≤ 10
    · rw [if_neg (by simp; omega)]
      have := refNum_loop l h2 l.length k 0 (by omega) (by omega) (by rw [List.take_zero]; rfl) (by rw [List.take_zero, Nat.pow_zero]; exact Nat.one_pos) (by omega)
      have z0 : ((valD 0 (l.take 0) : Nat) : Int) = 0 := by rw [List.take_zero]; rfl
      have z1 : ((0 : Nat) : Int) = 0 := rfl
      rw [z0, z1] at this
      rw [this]
      unfold goodNum
      have e1 : decide (1 ≤ l.length) = true := by simpa using h1
      have e2 : decide (l.length ≤ 10) = true := by simpa using h2
      rw [e1, e2]; simp
    · rw [if_pos (by simp; omega), if_neg]
      unfold goodNum
      have e2 : decide (l.length ≤ 10) = false := by simpa using h2
      rw [e2]; simp
  · rw [if_pos (by omega)]
    simp only [chancelref02_Number.j0]
    rw [if_pos trivial, if_neg]
    unfold goodNum
    have e1 : decide (1 ≤ l.length) = false := by simpa using h1
    rw [e1]; simp
end Go.Proofs.YtcpknmffnglegaaDoor.X
/- The document's own answer to chapter 2, in plain words (2): marks, words, the tokens of a text. -/
namespace Go.Proofs.YtcpknmffnglegaaDoor.X
open Go.RowKit Go.Proofs.YtcpknmffnglegaaDoorW.PrintWords
set_option linter.unusedSimpArgs false
set_option linter.unusedVariables false

abbrev RTok := S49
def rT (t : TokT) : RTok := ⟨t.f0, t.f1, t.f2⟩

/-! ### marks -/
theorem find_idx {α : Type} (p : α → Bool) : ∀ l : List α, l[l.findIdx p]? = l.find? p
  | [] => rfl
  | x :: l => by
    rw [List.findIdx_cons, List.find?_cons]
    cases h : p x with
    | true => rfl
    | false => simp [find_idx p l]
theorem pre_take (l m : List UInt8) : m.isPrefixOf l = true ↔ m.length ≤ l.length ∧ l.take m.length = m := by
  rw [List.isPrefixOf_iff_prefix, List.prefix_iff_eq_take]
  constructor
  · intro h
    refine ⟨?_, h.symm⟩
    have := congrArg List.length h
    rw [List.length_take] at this
    omega
  · rintro ⟨_, h⟩; exact h.symm
theorem refMark_loop (l : List UInt8) (hl : l.length ≤ 65536) (d : Nat) : ∀ (k i : Nat), i ≤ 13 → 13 - i = d → d < k →
    chancelref02_mark.l0 k (B l) markWords (i : Int) = some (((markWords.drop i).find? (preOf (B l))).getD ⟨#[]⟩) := by
  have hlen : markWords.length = 13 := rfl
  induction d with
  | zero =>
    intro k i h1 h2 h3
    obtain ⟨k, rfl⟩ : ∃ m, k = m + 1 := ⟨k - 1, by omega⟩
    obtain rfl : i = 13 := by omega
    simp only [chancelref02_mark.l0]
    rw [if_neg (by omega)]; rfl
  | succ d ih =>
    intro k i h1 h2 h3
    obtain ⟨k, rfl⟩ : ∃ m, k = m + 1 := ⟨k - 1, by omega⟩
    have hlt : i < markWords.length := by omega
    have hgo := ih k (i + 1) (by omega) (by omega) (by omega)
    simp only [chancelref02_mark.l0]
    rw [if_pos (by omega), if_pos (by omega), rdOf_get markWords i hlt, wrap_id (by omega) (by omega), List.drop_eq_getElem_cons hlt, List.find?_cons]
    generalize markWords[i] = m
    have hm : preOf (B l) m = true ↔ m.size ≤ l.length ∧ (B l).extract 0 m.size = m := by
      unfold preOf Lib.hasPrefix
      rw [B_list, pre_take, size_len, B_extract]
      constructor
      · rintro ⟨h1, h2⟩
        refine ⟨h1, ?_⟩
        rw [List.drop_zero, Nat.sub_zero, h2, B_of]
      · rintro ⟨h1, h2⟩
        refine ⟨h1, ?_⟩
        have := congrArg (·.data.toList) h2
        simpa [B_list] using this
    rw [B_size, Int.toNat_natCast]
    by_cases h : m.size ≤ l.length
    · rw [if_pos (by omega), if_pos (by omega), if_pos (by omega)]
      by_cases h2 : (B l).extract 0 m.size = m
      · rw [hm.2 ⟨h, h2⟩, h2, if_pos rfl]; rfl
      · have : preOf (B l) m = false := by
          rw [Bool.eq_false_iff]; exact fun e => h2 (hm.1 e).2
        rw [this, if_neg (fun e => h2 (by rw [ByteArray.toList_eq, ByteArray.toList_eq] at e; have e2 := congrArg B e; rwa [B_of, B_of] at e2))]
        exact hgo
    · have : preOf (B l) m = false := by
        rw [Bool.eq_false_iff]; exact fun e => h (hm.1 e).1
      rw [this, if_neg (by omega)]
      exact hgo
theorem refMark_eq (l : List UInt8) (hl : l.length ≤ 65536) (k : Nat) (hk : 20 < k) : chancelref02_mark.f k (B l) = some (B ((markL l).getD [])) := by
  have h := refMark_loop l hl 13 k 0 (by omega) rfl (by omega)
  show chancelref02_mark.l0 k (B l) markWords 0 = _
  rw [show ((0 : Nat) : Int) = 0 from rfl] at h
  rw [h, List.drop_zero]
  unfold markL markIdx
  rw [find_idx]
  cases (markWords.find? (preOf (B l))) with
  | none => rfl
  | some m => simp [B_of]

/-! ### words -/
def wordR (d : List UInt8) : Int × ByteArray × Int × Bool :=
  if isKey (B d) = true then (3, B d, 0, true) else if nameL d = true then (1, B d, 0, true) else if goodNum d = true then (2, B d, (valD 0 d : Int), true) else (2, B d, 0, false)
theorem word_eq (d : List UInt8) (k : Nat) (hk : 100 < k) : chancelref02_word.f k (B d) = some (wordR d) := by
  unfold chancelref02_word.f wordR
  rw [refKey_eq _ k (by omega), Option.bind_some]
  by_cases h : isKey (B d) = true
  · rw [if_pos h, if_pos h]
  · rw [if_neg h, if_neg h, refName_eq _ k (by omega), Option.bind_some]
    by_cases h2 : nameL d = true
    · rw [if_pos h2, if_pos h2]
    · rw [if_neg h2, if_neg h2, refNum_eq d k hk, Option.bind_some]
      by_cases h3 : goodNum d = true
      · rw [if_pos h3, if_pos h3]
      · rw [if_neg h3, if_neg h3]

/-! ### a text's tokens -/
theorem letter_ref (b : UInt8) : chancelref02_letter.f (b.toNat : Int) = some (isLet b) := by
  have := all_bytes (p := fun b => chancelref02_letter.f (b.toNat : Int) == some (isLet b)) (by decide +kernel) b
  simpa using this
theorem digit_ref (b : UInt8) : chancelref02_digit.f (b.toNat : Int) = some (isDig b) := by
  have := all_bytes (p := fun b => chancelref02_digit.f (b.toNat : Int) == some (isDig b)) (by decide +kernel) b
  simpa using this
def runP (f : UInt8) (c : UInt8) : Bool := isDig c || (isLet c && isLet f)
theorem run_ref (l : List UInt8) (hl : l.length ≤ 65536) (from_ : Nat) (hf : from_ < l.length) (acc : List RTok) (K n : Nat) : ∀ at_ : Nat, from_ ≤ at_ → at_ ≤ l.length → ((l.drop at_).takeWhile (runP l[from_])).length = n →
    chancelref02_Lex.l2 (K + n + 1) (B l) acc (at_ : Int) (from_ : Int) = (chancelref02_word.f K (B ((l.drop from_).take (at_ + n - from_)))).bind fun bt =>
      if bt.2.2.2 = true then (if acc.length < 4398046511104 then chancelref02_Lex.l0 K (B l) (acc ++ [(⟨bt.1, bt.2.1, bt.2.2.1⟩ : RTok)]) ((at_ + n : Nat) : Int) else none) else some ([], 2) := by
  have hex : ∀ a : Nat, a ≤ l.length → (B l).extract ((from_ : Int)).toNat ((a : Int)).toNat = B ((l.drop from_).take (a - from_)) := by
    intro a ha
    rw [Int.toNat_natCast, Int.toNat_natCast, B_extract]
  induction n with
  | zero =>
    intro a h0 h1 h2
    simp only [chancelref02_Lex.l2]
    by_cases hlt : a < l.length
    · have hc : runP l[from_] l[a] = false := by
        rw [List.drop_eq_getElem_cons hlt, List.takeWhile_cons] at h2
        cases hr : runP l[from_] l[a] with
        | false => rfl
        | true => rw [hr] at h2; simp at h2
      have hd : isDig l[a] = false := by
        cases h : isDig l[a] with
        | false => rfl
        | true => simp [runP, h] at hc
      rw [if_pos (by rw [B_size]; omega), if_pos (by omega), bt_B l a hlt, digit_ref, Option.bind_some, hd, if_neg (by simp), letter_ref, Option.bind_some]
      cases hL : isLet l[a] with
      | false =>
        rw [if_neg (by simp), if_pos (by omega), if_pos (by omega), if_pos (by rw [B_size]; omega), hex a h1]; rfl
      | true =>
        have hLf : isLet l[from_] = false := by
          cases h : isLet l[from_] with
          | false => rfl
          | true => simp [runP, hL, h] at hc
        rw [if_pos rfl, if_pos (by omega), if_pos (by rw [B_size]; omega), bt_B l from_ hf, letter_ref, Option.bind_some, hLf, if_neg (by simp), if_pos (by omega), if_pos (by rw [B_size]; omega), hex a h1]; rfl
    · rw [if_neg (by rw [B_size]; omega), if_pos (by omega), if_pos (by omega), if_pos (by rw [B_size]; omega), hex a h1]; rfl
  | succ n ih =>
    intro a h0 h1 h2
    have hlt : a < l.length := by
      rcases Nat.lt_or_ge a l.length with h | h
      · exact h
      · rw [List.drop_eq_nil_of_le h] at h2; simp at h2
    rw [List.drop_eq_getElem_cons hlt, List.takeWhile_cons] at h2
    cases hr : runP l[from_] l[a] with
    | false => rw [hr] at h2; simp at h2
    | true =>
      rw [hr] at h2
      simp only [if_true, List.length_cons] at h2
      have hgo := ih (a + 1) (by omega) (by omega) (by omega)
      rw [show a + 1 + n = a + (n + 1) by omega] at hgo
      rw [show K + (n + 1) + 1 = (K + n + 1) + 1 by omega]
      generalize K + n + 1 = K' at hgo ⊢
      simp only [chancelref02_Lex.l2]
      rw [if_pos (by rw [B_size]; omega), if_pos (by omega), bt_B l a hlt, digit_ref, Option.bind_some, wrap_id (by omega) (by omega)]
      cases hd : isDig l[a] with
      | true => rw [if_pos rfl]; exact hgo
      | false =>
        have hb : isLet l[a] = true ∧ isLet l[from_] = true := by simpa [runP, hd] using hr
        rw [if_neg (by simp), letter_ref, Option.bind_some, hb.1, if_pos rfl, if_pos (by omega), if_pos (by rw [B_size]; omega), bt_B l from_ hf, letter_ref, Option.bind_some, hb.2, if_pos rfl]
        exact hgo
theorem note_ref (l : List UInt8) (hl : l.length ≤ 65536) (acc : List RTok) (K n : Nat) : ∀ at_ : Nat, at_ ≤ l.length → ((l.drop at_).takeWhile (· != 10)).length = n →
    chancelref02_Lex.l1 (K + n + 1) (B l) acc (at_ : Int) = chancelref02_Lex.l0 K (B l) acc ((at_ + n : Nat) : Int) := by
  induction n with
  | zero =>
    intro a h1 h2
    simp only [chancelref02_Lex.l1]
    by_cases hlt : a < l.length
    · have hc : l[a] = 10 := by
        rw [List.drop_eq_getElem_cons hlt, List.takeWhile_cons] at h2
        by_cases h : l[a] = 10
        · exact h
        · rw [if_pos (by simpa using h)] at h2; simp at h2
      rw [if_pos (by rw [B_size]; omega), if_pos (by omega), bt_B l a hlt, hc, if_pos (by rfl)]; rfl
    · rw [if_neg (by rw [B_size]; omega)]; rfl
  | succ n ih =>
    intro a h1 h2
    have hlt : a < l.length := by
      rcases Nat.lt_or_ge a l.length with h | h
      · exact h
      · rw [List.drop_eq_nil_of_le h] at h2; simp at h2
    rw [List.drop_eq_getElem_cons hlt, List.takeWhile_cons] at h2
    by_cases hc : l[a] = 10
    · rw [if_neg (by simp [hc])] at h2; simp at h2
    · rw [if_pos (by simpa using hc)] at h2
      simp only [List.length_cons] at h2
      have hgo := ih (a + 1) (by omega) (by omega)
      rw [show a + 1 + n = a + (n + 1) by omega] at hgo
      rw [show K + (n + 1) + 1 = (K + n + 1) + 1 by omega]
      generalize K + n + 1 = K' at hgo ⊢
      simp only [chancelref02_Lex.l1]
      have hb : ¬ ((l[a].toNat : Int) = 10) := fun e => hc (by apply UInt8.toNat_inj.1; have : (10 : UInt8).toNat = 10 := rfl; omega)
      rw [if_pos (by rw [B_size]; omega), if_pos (by omega), bt_B l a hlt, if_neg hb, wrap_id (by omega) (by omega)]
      exact hgo
def resR (acc : List RTok) : Option (List TokT) → List RTok × Int
  | some ts => (acc ++ ts.map rT, 0)
  | none => ([], 2)
end Go.Proofs.YtcpknmffnglegaaDoor.X
/- The document's own answer to chapter 2, in plain words (3): it tells what the code tells. -/
namespace Go.Proofs.YtcpknmffnglegaaDoor.X
open Go.RowKit Go.Proofs.YtcpknmffnglegaaDoorW.PrintWords
set_option linter.unusedSimpArgs false
set_option linter.unusedVariables false

theorem num_dig (d : List UInt8) (h : d.all isDig = true) : (numOf (B d)).2 = goodNum d := by
  rw [← num_good]
  cases h2 : (numOf (B d)).2 with
  | false => rfl
  | true =>
    have h0 : 0 ≤ (numOf (B d)).1 := by
      unfold numOf at h2 ⊢
      cases hp : Lib.parseIntB 32 (B d).data.toList with
      | ok v =>
        rw [hp] at h2
        simp only at h2 ⊢
        have e : itoaF v = d := by simpa [B_list] using h2
        by_cases hv : v < 0
        · unfold itoaF at e
          rw [if_pos hv] at e
          rw [← e] at h
          simp [isDig] at h
        · exact Int.not_lt.1 hv
      | _ => rw [hp] at h2; cases h2
    simp [h0]
theorem good_dig {d : List UInt8} (h : goodNum d = true) : d.all isDig = true := by
  simp only [goodNum, Bool.and_eq_true] at h
  exact h.1.1.2
theorem let_dig (b : UInt8) (h : isLet b = true) : isDig b = false := by
  have h1 : (97 ≤ b.toNat ∧ b.toNat ≤ 122) ∨ (65 ≤ b.toNat ∧ b.toNat ≤ 90) := by simpa [isLet] using h
  simp [isDig]; omega
theorem key_let {b : UInt8} {d : List UInt8} (h : isKey (B (b :: d)) = true) : isLet b = true := by
  have := (isKey_plain h).2
  simp only [List.all_cons, Bool.and_eq_true] at this
  exact this.1
theorem name_let {b : UInt8} {d : List UInt8} (h : nameL (b :: d) = true) : isLet b = true := by
  simp only [nameL, Bool.and_eq_true] at h
  exact h.1.1
theorem mark_ne {l m : List UInt8} (h : markL l = some m) : m ≠ [] := by
  have hm := (markL_mem h).1
  have : (markWords.map (·.data.toList)).all (fun m => !m.isEmpty) = true := by decide +kernel
  have h2 := List.all_eq_true.1 this m hm
  intro e; rw [e] at h2; cases h2
theorem tw_take (p : UInt8 → Bool) : ∀ l : List UInt8, l.take (l.takeWhile p).length = l.takeWhile p
  | [] => rfl
  | c :: l => by
    rw [List.takeWhile_cons]
    cases h : p c with
    | true => simp [tw_take p l]
    | false => simp
theorem tw_sat (p : UInt8 → Bool) : ∀ l : List UInt8, (l.takeWhile p).all p = true
  | [] => rfl
  | c :: l => by
    rw [List.takeWhile_cons]
    cases h : p c with
    | true => simp [h, tw_sat p l]
    | false => simp

theorem refLex_loop (l : List UInt8) (hl : l.length ≤ 65536) (d : Nat) : ∀ (k a : Nat) (acc : List RTok), a ≤ l.length → l.length - a ≤ d → acc.length + (l.length - a) ≤ 65536 → 200 + 5 * d < k →
    chancelref02_Lex.l0 k (B l) acc (a : Int) = some (resR acc (tokL (l.drop a))) := by
  induction d using Nat.strongRecOn with
  | ind d ih =>
    intro k a acc h1 h2 h3 h4
    obtain ⟨k, rfl⟩ : ∃ m, k = m + 1 := ⟨k - 1, by omega⟩
    simp only [chancelref02_Lex.l0]
    by_cases hlt : a < l.length
    · have hd : l.drop a = l[a] :: l.drop (a + 1) := List.drop_eq_getElem_cons hlt
      have hbt := bt_B l a hlt
      generalize hb : l[a] = b at hd hbt
      generalize hr : l.drop (a + 1) = r at hd
      have hdl : (b :: r).length = l.length - a := by rw [← hd, List.length_drop]
      rw [if_pos (by rw [B_size]; omega), if_pos (by omega), hbt]
      have hj : (if (b.toNat : Int) = 32 then chancelref02_Lex.j1 k (B l) acc (a : Int) (a : Int) true else chancelref02_Lex.j1 k (B l) acc (a : Int) (a : Int) ((b.toNat : Int) == 10)) = chancelref02_Lex.j1 k (B l) acc (a : Int) (a : Int) (decide (b.toNat = 32) || decide (b.toNat = 10)) := by
        by_cases h : b.toNat = 32
        · rw [if_pos (by omega)]; simp [h]
        · rw [if_neg (by omega)]
          have e1 : decide (b.toNat = 32) = false := by simpa using h
          have e2 : ((b.toNat : Int) == 10) = decide (b.toNat = 10) := by
            by_cases h' : b.toNat = 10
            · simp [h']
            · have : ¬ ((b.toNat : Int) = 10) := by omega
              simp [h', this]
          rw [e1, e2, Bool.false_or]
      rw [hj, hd]
      obtain ⟨k, rfl⟩ : ∃ m, k = m + 1 := ⟨k - 1, by omega⟩
      simp only [chancelref02_Lex.j1]
      by_cases hbl : b.toNat = 32 ∨ b.toNat = 10
      · rw [if_pos (by simpa using hbl), wrap_id (by omega) (by omega)]
        have hb2 : b = 32 ∨ b = 10 := by
          rcases hbl with h | h
          · exact .inl (UInt8.toNat_inj.1 (by rw [h]; rfl))
          · exact .inr (UInt8.toNat_inj.1 (by rw [h]; rfl))
        rw [tokL_blank b hb2, ← hr]
        exact ih (d - 1) (by omega) k (a + 1) acc (by omega) (by omega) (by omega) (by omega)
      · rw [if_neg (by simpa using hbl), if_pos (by omega), if_pos (by rw [B_size]; omega)]
        by_cases h35 : b.toNat = 35
        · rw [if_pos (by omega)]
          obtain ⟨n, hn⟩ : ∃ n, ((l.drop a).takeWhile (· != 10)).length = n := ⟨_, rfl⟩
          have hle : n ≤ l.length - a := by rw [← hn, ← List.length_drop]; exact tw_le _ _
          have hn1 : 1 ≤ n := by
            rw [← hn, hd, List.takeWhile_cons, if_pos]
            · simp
            · rw [bne_iff_ne]; intro e; rw [e] at h35; exact absurd h35 (by decide)
          have ht : tokL (b :: r) = tokL (l.drop (a + n)) := by
            have hnx : nextL (b :: r) = ⟨0, [], 0, ((b :: r).takeWhile (· != 10)).length, true⟩ := by rw [nextL_cons, if_pos h35]
            rw [tokL_cons, hnx]
            simp only [if_true]
            rw [if_neg (by omega)]
            rw [hd] at hn
            rw [hn, ← hd, List.drop_drop]
          obtain ⟨K, rfl⟩ : ∃ K, k = K + n + 1 := ⟨k - n - 1, by omega⟩
          rw [note_ref l hl acc K n a h1 hn, ht]
          exact ih (d - n) (by omega) K (a + n) acc (by omega) (by omega) (by omega) (by omega)
        · rw [if_neg (by omega), hbt, letter_ref, Option.bind_some, digit_ref, Option.bind_some]
          have hj3 : (if isLet b = true then chancelref02_Lex.j3 k (B l) acc (a : Int) (a : Int) true else chancelref02_Lex.j3 k (B l) acc (a : Int) (a : Int) (isDig b)) = chancelref02_Lex.j3 k (B l) acc (a : Int) (a : Int) (isWord b) := by
            unfold isWord
            cases isLet b with
            | true => rw [if_pos rfl]; rfl
            | false => rw [if_neg (by simp), Bool.false_or]
          rw [hj3]
          obtain ⟨k, rfl⟩ : ∃ m, k = m + 1 := ⟨k - 1, by omega⟩
          simp only [chancelref02_Lex.j3]
          cases hW : isWord b with
          | true =>
            rw [if_pos rfl]
            obtain ⟨n, hn⟩ : ∃ n, ((l.drop a).takeWhile (runP b)).length = n := ⟨_, rfl⟩
            have hle : n ≤ l.length - a := by rw [← hn, ← List.length_drop]; exact tw_le _ _
            have hpb : runP b b = true := by
              unfold isWord at hW
              cases hL : isLet b with
              | true => simp [runP, hL]
              | false => rw [hL, Bool.false_or] at hW; simp [runP, hW]
            have hn1 : 1 ≤ n := by
              rw [← hn, hd, List.takeWhile_cons, if_pos hpb]; simp
            obtain ⟨K, rfl⟩ : ∃ K, k = K + n + 1 := ⟨k - n - 1, by omega⟩
            rw [run_ref l hl a hlt acc K n a (Nat.le_refl _) h1 (by rw [hb]; exact hn), show a + n - a = n by omega, word_eq _ K (by omega), Option.bind_some]
            have hrun : (l.drop a).take n = (b :: r).takeWhile (runP b) := by rw [← hn, tw_take, hd]
            rw [hrun]
            have hdrop : (b :: r).drop n = l.drop (a + n) := by rw [← hd, List.drop_drop]
            rw [hd] at hn
            have hrc : (b :: r).takeWhile (runP b) = b :: r.takeWhile (runP b) := by rw [List.takeWhile_cons, if_pos hpb]
            cases hD : isDig b with
            | true =>
              have hL : isLet b = false := by
                cases h : isLet b with
                | false => rfl
                | true => rw [let_dig b h] at hD; cases hD
              have hp : runP b = isDig := by funext c; simp [runP, hL]
              rw [hp] at hn hrc ⊢
              have hk : isKey (B ((b :: r).takeWhile isDig)) = false := by
                rw [Bool.eq_false_iff, hrc]; intro h; rw [key_let h] at hL; cases hL
              have hnm : nameL ((b :: r).takeWhile isDig) = false := by
                rw [Bool.eq_false_iff, hrc]; intro h; rw [name_let h] at hL; cases hL
              have hall : ((b :: r).takeWhile isDig).all isDig = true := tw_sat _ _
              have hg := num_dig _ hall
              have hnx : nextL (b :: r) = ⟨2, (b :: r).takeWhile isDig, (numOf (B ((b :: r).takeWhile isDig))).1, ((b :: r).takeWhile isDig).length, (numOf (B ((b :: r).takeWhile isDig))).2⟩ := by
                rw [nextL_cons, if_neg h35, if_neg hbl, if_pos hD]
              rw [tokL_cons, hnx]
              generalize (b :: r).takeWhile isDig = X at *
              by_cases hgood : goodNum X = true
              · have hwr : wordR X = (2, B X, (valD 0 X : Int), true) := by unfold wordR; rw [hk, hnm, hgood]; rfl
                rw [hwr, hg, hgood]
                simp only [if_true]
                rw [if_pos (by omega), if_pos (by decide), hn, hdrop, num_val hgood, ih (d - n) (by omega) K (a + n) _ (by omega) (by omega) (by simp; omega) (by omega)]
                cases tokL (l.drop (a + n)) with
                | none => rfl
                | some ts => simp [resR, rT]
              · have hgood' : goodNum X = false := by simpa using hgood
                have hwr : wordR X = (2, B X, 0, false) := by unfold wordR; rw [hk, hnm, hgood']; rfl
                rw [hwr, hg, hgood']
                simp [resR]
            | false =>
              have hL : isLet b = true := by unfold isWord at hW; rw [hD, Bool.or_false] at hW; exact hW
              have hp : runP b = isWord := by funext c; simp [runP, hL, isWord, Bool.or_comm]
              rw [hp] at hn hrc ⊢
              have hg : goodNum ((b :: r).takeWhile isWord) = false := by
                rw [Bool.eq_false_iff]; intro h
                have := good_dig h
                rw [hrc, List.all_cons, hD] at this; cases this
              have hnx : nextL (b :: r) = wordTok ((b :: r).takeWhile isWord) := by
                rw [nextL_cons, if_neg h35, if_neg hbl, if_neg (by rw [hD]; simp), if_pos hW]
              rw [tokL_cons, hnx]
              generalize (b :: r).takeWhile isWord = X at *
              by_cases hk : isKey (B X) = true
              · have hwr : wordR X = (3, B X, 0, true) := by unfold wordR; rw [if_pos hk]
                have hwt : wordTok X = ⟨3, X, 0, X.length, true⟩ := by unfold wordTok; rw [if_pos hk]
                rw [hwr, hwt]
                simp only [if_true]
                rw [if_pos (by omega), if_pos (by decide), hn, hdrop, ih (d - n) (by omega) K (a + n) _ (by omega) (by omega) (by simp; omega) (by omega)]
                cases tokL (l.drop (a + n)) with
                | none => rfl
                | some ts => simp [resR, rT]
              · have hwt : wordTok X = ⟨1, X, 0, X.length, nameL X⟩ := by unfold wordTok; rw [if_neg hk]
                by_cases hnm : nameL X = true
                · have hwr : wordR X = (1, B X, 0, true) := by unfold wordR; rw [if_neg hk, if_pos hnm]
                  rw [hwr, hwt, hnm]
                  simp only [if_true]
                  rw [if_pos (by omega), if_pos (by decide), hn, hdrop, ih (d - n) (by omega) K (a + n) _ (by omega) (by omega) (by simp; omega) (by omega)]
                  cases tokL (l.drop (a + n)) with
                  | none => rfl
                  | some ts => simp [resR, rT]
                · have hnm' : nameL X = false := by simpa using hnm
                  have hwr : wordR X = (2, B X, 0, false) := by unfold wordR; rw [if_neg hk, if_neg hnm, hg]; rfl
                  rw [hwr, hwt, hnm']
                  simp [resR]
          | false =>
            have hD : isDig b = false := by unfold isWord at hW; cases h : isDig b with
              | false => rfl
              | true => rw [h] at hW; simp at hW
            rw [if_neg (by simp), if_pos (by omega), if_pos (by rw [B_size]; omega)]
            have hex : (B l).extract ((a : Int)).toNat (B l).size = B (b :: r) := by
              rw [Int.toNat_natCast, B_extract, B_size, hd, List.take_of_length_le (by rw [hdl]; omega)]
            rw [hex, refMark_eq _ (by omega) k (by omega), Option.bind_some, B_toList]
            have hnx := nextL_cons b r
            rw [if_neg h35, if_neg hbl, if_neg (by rw [hD]; simp), if_neg (by rw [hW]; simp)] at hnx
            rw [tokL_cons, hnx]
            cases hm : markL (b :: r) with
            | none => simp [resR]
            | some m =>
              have hne := mark_ne hm
              have hml : m.length ≤ (b :: r).length := by
                have := (markL_mem hm).2
                exact ((pre_take _ _).1 this).1
              have hm1 : 1 ≤ m.length := by cases m with
                | nil => exact absurd rfl hne
                | cons => simp
              have hdrop : (b :: r).drop m.length = l.drop (a + m.length) := by rw [← hd, List.drop_drop]
              simp only [Option.getD_some, if_true]
              rw [if_neg hne, if_pos (by omega), if_pos (by decide), B_size, wrap_id (by omega) (by omega), hdrop,
                show ((a : Int) + (m.length : Int)) = ((a + m.length : Nat) : Int) from rfl, ih (d - m.length) (by omega) k (a + m.length) _ (by omega) (by omega) (by simp; omega) (by omega)]
              cases tokL (l.drop (a + m.length)) with
              | none => rfl
              | some ts => simp [resR, rT]
    · obtain rfl : a = l.length := by omega
      rw [if_neg (by rw [B_size]; omega), List.drop_length, tokL_nil]
      simp [resR]
end Go.Proofs.YtcpknmffnglegaaDoor.X
/- The document's own answer to chapter 2, in plain words (4): its other functions, and the contracts. -/
namespace Go.Proofs.YtcpknmffnglegaaDoor.X
open Go.RowKit Go.Proofs.YtcpknmffnglegaaDoorW.PrintWords
set_option linter.unusedSimpArgs false
set_option linter.unusedVariables false

theorem refLex_eq (l : List UInt8) (hl : l.length ≤ 9223372036854775807) (k : Nat) (hk : 400000 < k) : chancelref02_Lex.f k (B l) = some ((lexR l).1.map rT, (lexR l).2) := by
  unfold chancelref02_Lex.f lexR
  rw [B_size]
  by_cases h : l.length > 65536
  · rw [if_pos (by omega), if_pos h]; rfl
  · rw [if_neg (by omega), if_neg h]
    have := refLex_loop l (by omega) l.length k 0 [] (by omega) (by omega) (by simp; omega) (by omega)
    rw [show ((0 : Nat) : Int) = 0 from rfl, List.drop_zero] at this
    rw [this]
    cases tokL l with
    | none => rfl
    | some ts => simp [resR]
theorem rd_tok (l : List TokT) (i : Nat) (h : i < l.length) : rd_T41 l (i : Int) = l[i] := by
  unfold rd_T41; simp [List.getD_eq_getElem?_getD, List.getElem?_eq_getElem h]
theorem rd_rtok (l : List RTok) (i : Nat) (h : i < l.length) : rd_T49 l (i : Int) = l[i] := by
  unfold rd_T49; simp [List.getD_eq_getElem?_getD, List.getElem?_eq_getElem h]
theorem refToks_loop (l : List TokT) (hl : l.length ≤ 4000000000000) (d : Nat) : ∀ (k i : Nat), i ≤ l.length → l.length - i = d → d < k →
    chancellaw02_refToks.l0 k l ((l.take i).map rT) (i : Int) = some (l.map rT) := by
  induction d with
  | zero =>
    intro k i h1 h2 h3
    obtain ⟨k, rfl⟩ : ∃ m, k = m + 1 := ⟨k - 1, by omega⟩
    obtain rfl : i = l.length := by omega
    simp only [chancellaw02_refToks.l0]
    rw [if_neg (by omega), List.take_length]
  | succ d ih =>
    intro k i h1 h2 h3
    obtain ⟨k, rfl⟩ : ∃ m, k = m + 1 := ⟨k - 1, by omega⟩
    have hlt : i < l.length := by omega
    have hgo := ih k (i + 1) (by omega) (by omega) (by omega)
    simp only [chancellaw02_refToks.l0]
    rw [if_pos (by omega), if_pos (by omega), if_pos (by rw [List.length_map, List.length_take]; omega), wrap_id (by omega) (by omega), rd_tok l i hlt]
    rw [List.take_succ_eq_append_getElem hlt, List.map_append] at hgo
    exact hgo
theorem refToks_eq (l : List TokT) (hl : l.length ≤ 4000000000000) (k : Nat) (hk : l.length < k) : chancellaw02_refToks.f k l = some (l.map rT) :=
  refToks_loop l hl l.length k 0 (by omega) (by omega) hk
theorem sameToks_loop (l : List RTok) (hl : l.length ≤ 4000000000000) (d : Nat) : ∀ (k i : Nat), i ≤ l.length → l.length - i = d → d < k →
    chancellaw02_sameToks.l0 k l l (i : Int) = some true := by
  induction d with
  | zero =>
    intro k i h1 h2 h3
    obtain ⟨k, rfl⟩ : ∃ m, k = m + 1 := ⟨k - 1, by omega⟩
    simp only [chancellaw02_sameToks.l0]
    rw [if_neg (by omega)]
  | succ d ih =>
    intro k i h1 h2 h3
    obtain ⟨k, rfl⟩ : ∃ m, k = m + 1 := ⟨k - 1, by omega⟩
    have hgo := ih k (i + 1) (by omega) (by omega) (by omega)
    simp only [chancellaw02_sameToks.l0]
    rw [if_pos (by omega), if_pos (by omega), if_pos (by omega), if_neg (by simp), wrap_id (by omega) (by omega)]
    exact hgo
theorem sameToks_eq (l : List TokT) (hl : l.length ≤ 4000000000000) (k : Nat) (hk : l.length < k) : chancellaw02_sameToks.f k l (l.map rT) = some true := by
  unfold chancellaw02_sameToks.f
  rw [refToks_eq l hl k hk, Option.bind_some, if_pos rfl]
  exact sameToks_loop (l.map rT) (by rw [List.length_map]; exact hl) (l.map rT).length k 0 (by omega) (by omega) (by rw [List.length_map]; exact hk)

/-! ### right -/
theorem mark_has (d : List UInt8) : (markL d == some d) = (markWords.any fun x => x.data.toList == d) := by
  rw [Bool.eq_iff_iff, beq_iff_eq, List.any_eq_true]
  constructor
  · intro h
    obtain ⟨x, hx, he⟩ := List.mem_map.1 (markL_mem h).1
    exact ⟨x, hx, by simpa using he⟩
  · rintro ⟨x, hx, he⟩
    have : markWords.all (fun m => markL m.data.toList == some m.data.toList) = true := by decide +kernel
    have h := List.all_eq_true.1 this x hx
    rw [show x.data.toList = d by simpa using he] at h
    simpa using h
theorem refRight_one (t : TokT) (k : Nat) (hk : 100 < k) : chancelref02_right.f k t.f0 t.f1 t.f2 = some (rightT t) := by
  obtain ⟨f0, f1, f2⟩ := t
  obtain ⟨d, rfl⟩ : ∃ d, f1 = B d := ⟨_, (B_of f1).symm⟩
  unfold chancelref02_right.f rightT
  simp only [B_list]
  by_cases h1 : f0 = 1
  · subst h1
    rw [if_pos rfl, if_pos (.inl rfl), refName_eq d k (by omega), Option.bind_some, refKey_eq _ k (by omega)]
    unfold wordTok
    cases hk : isKey (B d) with
    | true => cases nameL d <;> simp
    | false => cases nameL d <;> simp
  · rw [if_neg h1]
    by_cases h2 : f0 = 2
    · subst h2
      rw [if_pos rfl, if_neg (by decide), if_pos rfl, refNum_eq d k hk, Option.bind_some, num_good]
      by_cases hg : goodNum d = true
      · rw [if_pos hg, if_pos rfl, hg, num_val hg]; simp
      · rw [if_neg hg, if_neg (by simp)]
        have : goodNum d = false := by simpa using hg
        rw [this]; simp
    · rw [if_neg h2]
      by_cases h3 : f0 = 3
      · subst h3
        rw [if_pos rfl, if_pos (.inr rfl), refKey_eq _ k (by omega), Option.bind_some]
        unfold wordTok
        cases hk : isKey (B d) with
        | true => simp
        | false => simp
      · have h13 : ¬ (f0 = 1 ∨ f0 = 3) := by rintro (h | h) <;> contradiction
        rw [if_neg h3, if_neg h13, if_neg h2]
        by_cases h4 : f0 = 4
        · subst h4
          rw [if_pos rfl, if_pos rfl]
          show (some markWords).bind _ = _
          rw [Option.bind_some, has_eq markWords _ (by decide) k (Nat.lt_trans (by decide) hk), Option.bind_some, B_list, mark_has]
          cases (markWords.any fun x => x.data.toList == d) <;> simp
        · rw [if_neg h4, if_neg h4]
theorem refRight_loop (l : List TokT) (hl : l.length ≤ 4000000000000) (d : Nat) : ∀ (k i : Nat), i ≤ l.length → l.length - i = d → 200 + d < k →
    chancelref02_Right.l0 k (l.map rT) (i : Int) = some ((l.drop i).all rightT) := by
  induction d with
  | zero =>
    intro k i h1 h2 h3
    obtain ⟨k, rfl⟩ : ∃ m, k = m + 1 := ⟨k - 1, by omega⟩
    obtain rfl : i = l.length := by omega
    simp only [chancelref02_Right.l0]
    rw [if_neg (by rw [List.length_map]; omega), List.drop_length]; rfl
  | succ d ih =>
    intro k i h1 h2 h3
    obtain ⟨k, rfl⟩ : ∃ m, k = m + 1 := ⟨k - 1, by omega⟩
    have hlt : i < l.length := by omega
    have hgo := ih k (i + 1) (by omega) (by omega) (by omega)
    simp only [chancelref02_Right.l0]
    rw [if_pos (by rw [List.length_map]; omega), if_pos (by omega), rd_rtok (l.map rT) i (by rw [List.length_map]; exact hlt), wrap_id (by omega) (by omega), List.drop_eq_getElem_cons hlt, List.all_cons, List.getElem_map]
    have h1 := refRight_one l[i] k (by omega)
    show (chancelref02_right.f k l[i].f0 l[i].f1 l[i].f2).bind _ = _
    rw [h1, Option.bind_some]
    cases rightT l[i] with
    | true => rw [if_pos rfl, Bool.true_and]; exact hgo
    | false => rw [if_neg (by simp)]; rfl
theorem refRight_eq (l : List TokT) (hl : l.length ≤ 4000000000000) (k : Nat) (hk : 200 + l.length < k) : chancelref02_Right.f k (l.map rT) = some (l.all rightT) := by
  have := refRight_loop l hl l.length k 0 (by omega) (by omega) hk
  rw [List.drop_zero] at this
  exact this

/-! ### Print -/
def printG (b : Bool) : List TokT → List UInt8
  | [] => []
  | t :: l => (if b then [32] else []) ++ t.f1.data.toList ++ printG true l
theorem printG_true : ∀ l : List TokT, l ≠ [] → printG true l = 32 :: printL l
  | [], h => absurd rfl h
  | [t], _ => by simp [printG, printL]
  | t :: u :: l, _ => by
    have := printG_true (u :: l) (by simp)
    rw [printG, this, printL]; simp
theorem printG_false : ∀ l : List TokT, printG false l = printL l
  | [] => rfl
  | [t] => by simp [printG, printL]
  | t :: u :: l => by rw [printG, printG_true (u :: l) (by simp), printL]; simp
theorem refPrint_loop (l : List TokT) (hl : l.length ≤ 4000000000000) (d : Nat) : ∀ (k i : Nat) (acc : List UInt8), i ≤ l.length → l.length - i = d → d < k → acc.length + (printG (decide (0 < i)) (l.drop i)).length ≤ 140737488355328 →
    chancelref02_Print.l0 k (l.map rT) (B acc) (i : Int) = some (B (acc ++ printG (decide (0 < i)) (l.drop i))) := by
  induction d with
  | zero =>
    intro k i acc h1 h2 h3 h4
    obtain ⟨k, rfl⟩ : ∃ m, k = m + 1 := ⟨k - 1, by omega⟩
    obtain rfl : i = l.length := by omega
    simp only [chancelref02_Print.l0]
    rw [if_neg (by rw [List.length_map]; omega), List.drop_length]; simp [printG]
  | succ d ih =>
    intro k i acc h1 h2 h3 h4
    obtain ⟨k, rfl⟩ : ∃ m, k = m + 1 := ⟨k - 1, by omega⟩
    have hlt : i < l.length := by omega
    have hf : rd_T49 (l.map rT) (i : Int) = rT l[i] := by rw [rd_rtok (l.map rT) i (by rw [List.length_map]; exact hlt), List.getElem_map]
    have hF : (rT l[i]).f1 = B l[i].f1.data.toList := (B_of _).symm
    have es1 : (⟨#[32]⟩ : ByteArray) = B [32] := rfl
    have hd : l.drop i = l[i] :: l.drop (i + 1) := List.drop_eq_getElem_cons hlt
    rw [hd, printG] at h4 ⊢
    simp only [chancelref02_Print.l0]
    rw [if_pos (by rw [List.length_map]; omega), hf, hF, es1]
    generalize l[i].f1.data.toList = f at h4 ⊢
    have hs : decide (0 < i + 1) = true := by simp
    rcases Nat.eq_zero_or_pos i with h0 | h0
    · have hz : decide (0 < i) = false := by subst h0; rfl
      rw [hz] at h4 ⊢
      simp only [Bool.false_eq_true, if_false, List.nil_append, List.length_append] at h4 ⊢
      have hgo := ih k (i + 1) (acc ++ f) (by omega) (by omega) (by omega) (by rw [hs, List.length_append]; omega)
      rw [hs] at hgo
      rw [if_neg (by omega), if_pos (by omega), if_pos (by rw [B_size, B_size]; omega), B_append, wrap_id (by omega) (by omega), ← List.append_assoc]
      exact hgo
    · have hz : decide (0 < i) = true := by simpa using h0
      rw [hz] at h4 ⊢
      simp only [if_true, List.length_append, List.length_singleton] at h4 ⊢
      have hgo := ih k (i + 1) (acc ++ [32] ++ f) (by omega) (by omega) (by omega) (by rw [hs]; simp only [List.length_append, List.length_singleton]; omega)
      rw [hs] at hgo
      rw [if_pos (by omega), if_pos (by rw [B_size]; omega), if_pos (by omega), if_pos (by rw [B_append, B_size, B_size, List.length_append, List.length_singleton]; omega), B_append, B_append, wrap_id (by omega) (by omega)]
      have e : acc ++ ([32] ++ f ++ printG true (l.drop (i + 1))) = acc ++ [32] ++ f ++ printG true (l.drop (i + 1)) := by simp
      rw [e]
      exact hgo
theorem refPrint_eq (l : List TokT) (hl : l.length ≤ 4000000000000) (hp : (printL l).length ≤ 140737488355328) (k : Nat) (hk : l.length < k) : chancelref02_Print.f k (l.map rT) = some (B (printL l)) := by
  have := refPrint_loop l hl l.length k 0 [] (by omega) (by omega) hk (by rw [List.drop_zero, show decide (0 < 0) = false from rfl, printG_false]; simpa using hp)
  rw [List.drop_zero, show decide (0 < 0) = false from rfl, printG_false] at this
  exact this

/-! ### the contracts -/
abbrev ReadsR (w : World) (A : Option Addr) (c : Nat) (l : List RTok) : Prop := Kd.C k49 w A l.length l ∧ l.length ≤ c
theorem ReadsR.below {w w1 : World} {A : Option Addr} {c : Nat} {l : List RTok} (h : ReadsR w A c l) (hb : Below w.heap.size w w1) : ReadsR w1 A c l := ⟨Kd.C_below h.1 hb, h.2⟩
theorem refLexC (l : List UInt8) (hl : l.length ≤ 9223372036854775807) (w : World) :
    Calls Tryd.prog 11 #[.string (B l)] w fun e w' => ∃ A c, e = .returned (.tuple #[.slice A (lexR l).1.length c, .int .i64 (lexR l).2]) ∧ ReadsR w' A c ((lexR l).1.map rT) ∧ Below w.heap.size w w' := by
  refine (chancelref02_Lex.calls 400001 (B l) ((lexR l).1.map rT) (lexR l).2 w (refLex_eq l hl _ (by omega))).mono ?_
  rintro e w' ⟨v, rfl, hR, hb⟩
  obtain ⟨A, c, rfl, hc, hC⟩ := Kd.R_reads hR
  exact ⟨A, c, by rw [List.length_map], ⟨hC, hc⟩, hb⟩
theorem refToksC (l : List TokT) (hl : l.length ≤ 4000000000000) (A : Option Addr) (c : Nat) (w : World) (hr : Reads w A c l) :
    Calls Tryd.prog 15 #[.slice A l.length c] w fun e w' => ∃ A c, e = .returned (.slice A l.length c) ∧ ReadsR w' A c (l.map rT) ∧ Below w.heap.size w w' := by
  refine (chancellaw02_refToks.calls (l.length + 1) A c l (l.map rT) w hr.1 hr.2 (refToks_eq l hl _ (by omega))).mono ?_
  rintro e w' ⟨v, rfl, hR, hb⟩
  obtain ⟨A, c, rfl, hc, hC⟩ := Kd.R_reads hR
  exact ⟨A, c, by rw [List.length_map], ⟨hC, hc⟩, hb⟩
theorem sameToksC (l : List TokT) (hl : l.length ≤ 4000000000000) (A A' : Option Addr) (c c' : Nat) (w : World) (hr : Reads w A c l) (hr' : ReadsR w A' c' (l.map rT)) :
    Calls Tryd.prog 12 #[.slice A l.length c, .slice A' l.length c'] w fun e w' => e = .returned (.bool true) ∧ Below w.heap.size w w' := by
  have h := chancellaw02_sameToks.calls (l.length + 1) A c l A' c' (l.map rT) true w hr.1 hr.2 hr'.1 hr'.2 (sameToks_eq l hl _ (by omega))
  rw [List.length_map] at h
  exact h
theorem refRightC (l : List TokT) (hl : l.length ≤ 4000000000000) (A : Option Addr) (c : Nat) (w : World) (hr : ReadsR w A c (l.map rT)) :
    Calls Tryd.prog 14 #[.slice A l.length c] w fun e w' => e = .returned (.bool (l.all rightT)) ∧ Below w.heap.size w w' := by
  have h := chancelref02_Right.calls (l.length + 201) A c (l.map rT) (l.all rightT) w hr.1 hr.2 (refRight_eq l hl _ (by omega))
  rw [List.length_map] at h
  exact h
theorem refPrintC (l : List TokT) (hl : l.length ≤ 4000000000000) (hp : (printL l).length ≤ 140737488355328) (A : Option Addr) (c : Nat) (w : World) (hr : ReadsR w A c (l.map rT)) :
    Calls Tryd.prog 17 #[.slice A l.length c] w fun e w' => e = .returned (.string (B (printL l))) ∧ Below w.heap.size w w' := by
  have h := chancelref02_Print.calls (l.length + 1) A c (l.map rT) (B (printL l)) w hr.1 hr.2 (refPrint_eq l hl hp _ (by omega))
  rw [List.length_map] at h
  refine h.mono ?_
  rintro e w' ⟨rfl, hd⟩
  exact ⟨rfl, hd.below⟩
theorem refKeyC (s : ByteArray) (w : World) :
    Calls Tryd.prog 19 #[.string s] w fun e w' => e = .returned (.bool (isKey s)) ∧ Below w.heap.size w w' :=
  chancelref02_Keyword.calls 100 s (isKey s) w (refKey_eq s 100 (by omega))
end Go.Proofs.YtcpknmffnglegaaDoor.X
/- A parameter '[]lex.Tok', as a row reads it. -/
namespace Go.Proofs.YtcpknmffnglegaaDoor.X
open Go.RowKit Go.Proofs.YtcpknmffnglegaaDoorW.PrintWords Go.Proofs.YtcpknmffnglegaaDoor.Rows
set_option linter.unusedSimpArgs false
set_option linter.unusedVariables false

theorem addr_add (a : Addr) (m j : Nat) : (a.add m).add j = a.add (m + j) := by
  unfold Addr.add
  by_cases hj : j = 0
  · subst hj; simp
  · by_cases hm : m = 0
    · subst hm; simp
    · rw [if_neg hj, if_neg hm, if_neg (by omega)]
      simp [Nat.add_assoc]
theorem bulk_mem {H : Type} : ∀ (l : List (DataW H)) (d : DataW H), d ∈ l → uptoBulk d ≤ uptoBulkAll l
  | [], _, h => by cases h
  | x :: l, d, h => by
    rw [uptoBulkAll]
    rcases List.mem_cons.1 h with rfl | h
    · omega
    · have := bulk_mem l d h; omega
theorem bulk_pos {H : Type} (d : DataW H) : 1 ≤ uptoBulk d := by
  cases d with
  | lit x => cases x <;> simp [uptoBulk]
  | _ => simp [uptoBulk]
theorem bulk_len {H : Type} : ∀ (l : List (DataW H)), l.length ≤ uptoBulkAll l
  | [] => by simp [uptoBulkAll]
  | x :: l => by
    have := bulk_len l
    have := bulk_pos x
    rw [uptoBulkAll, List.length_cons]; omega
def tokAt (w : World) (a : Addr) (i : Nat) : TokT :=
  ⟨match w.cell? (a.add (i * 3)) with | some (.int _ n) => n | _ => 0, match w.cell? (a.add (i * 3 + 1)) with | some (.string s) => s | _ => ByteArray.empty, match w.cell? (a.add (i * 3 + 2)) with | some (.int _ n) => n | _ => 0⟩
set_option maxRecDepth 100000 in
theorem toks_of_trod {H : Type} {enc : TypeId × Value → H} {W : World} {base : Nat} {spare : Nat → Bool} {held : Bool} {a : Option Addr} {len cap : Nat} {d : DataW H} {p : List MemPlace}
    (h : DataW.Trod enc Tryd.prog W base spare held 22 (.slice a len cap) d p) :
    ∃ l : List TokT, len = l.length ∧ Reads W a cap l ∧ l.length ≤ uptoBulk d ∧ ∀ t ∈ l, t.f1.size ≤ uptoBulk d := by
  obtain ⟨fuel, hf⟩ := h
  rcases DataW.trod_slice Tryd.underlying22 hf with ⟨hcs, hx⟩ | ⟨ad, ln, cp, elems, rest, n, rfl, hcs, hx, hb, hl, hm, hlen, hel, hsp, hns⟩
  · simp [Value.cells] at hcs
    obtain ⟨rfl, rfl, rfl⟩ := hcs
    exact ⟨[], rfl, ⟨⟨rfl, by simp, fun h => absurd h (by simp)⟩, by simp⟩, by simp, fun t ht => by cases ht⟩
  · simp [Value.cells] at hcs
    obtain ⟨rfl, rfl, rfl⟩ := hcs
    have hc3 : Tryd.prog.cellsOf 41 = 3 := by kernel_rfl
    have hc1 : Tryd.prog.cellsOf 3 = 1 := by kernel_rfl
    have hcs1 : Tryd.prog.cellsOf 9 = 1 := by kernel_rfl
    have hcn1 : Tryd.prog.cellsOf 2 = 1 := by kernel_rfl
    simp only [Prod.mk.injEq] at hx
    obtain ⟨rfl, -⟩ := hx
    have key : ∀ i, i < len → ∃ n0 s n2 q, W.cell? (ad.add (i * 3)) = some (.int .i64 n0) ∧ W.cell? (ad.add (i * 3 + 1)) = some (.string s) ∧ W.cell? (ad.add (i * 3 + 2)) = some (.int .i64 n2) ∧ elems[i]? = some (.agg [.lit (.int .i64 n0), .lit (.string s.data.toList), .lit (.int .i64 n2)], q) := by
      intro i hi
      have he := hel i hi
      have hlt : i < elems.length := by omega
      rw [List.getElem?_eq_getElem hlt, hc3] at he
      obtain ⟨cs, hcl, ht⟩ := Option.bind_eq_some_iff.1 he
      obtain ⟨_, hcsl, hcell⟩ := World.cells?_some hcl
      obtain ⟨y0, y1, y2, m, hy, _, h0, h1, h2⟩ := Go.Deep.trod_struct3 Tryd.underlying41 ht
      match cs, hcsl with
      | [c0, c1, c2], _ =>
        simp only [hc1, hcs1, hcn1, List.drop_zero, List.drop_succ_cons, List.take_succ_cons, List.take_zero] at h0 h1 h2
        obtain ⟨n0, e0, x0, _⟩ := DataW.trod_int Tryd.underlying3 h0
        obtain ⟨s, e1, x1, _⟩ := DataW.trod_string Tryd.underlying9 h1
        obtain ⟨n2, e2, x2, _⟩ := DataW.trod_int Tryd.underlying2 h2
        have g0 := hcell 0 (by omega)
        have g1 := hcell 1 (by omega)
        have g2 := hcell 2 (by omega)
        rw [addr_add] at g0 g1 g2
        simp only [List.cons.injEq, and_true] at e0 e1 e2
        subst e0 e1 e2
        refine ⟨n0, s, n2, y0.2 ++ (y1.2 ++ y2.2), g0, g1, g2, ?_⟩
        rw [List.getElem?_eq_getElem hlt, hy, x0, x1, x2]
    have hmx : maxLen ≤ 9223372036854775807 := by decide
    have hlc : ((List.range len).map (tokAt W ad)).length = len := by simp
    refine ⟨(List.range len).map (tokAt W ad), hlc.symm, ⟨⟨rfl, by omega, fun hp => ⟨ad, rfl, fun j p hj => ?_⟩⟩, by omega⟩, ?_, ?_⟩
    · have hjl : j < len := by
        rcases Nat.lt_or_ge j len with h | h
        · exact h
        · rw [List.getElem?_eq_none (by simpa using h)] at hj; cases hj
      rw [List.getElem?_map, List.getElem?_range hjl, Option.map_some] at hj
      injection hj with hj
      obtain ⟨n0, s, n2, q, g0, g1, g2, _⟩ := key j hjl
      have hp : p = ⟨n0, s, n2⟩ := by rw [← hj]; unfold tokAt; rw [g0, g1, g2]
      subst hp
      refine ⟨_, rfl, k41_mk W _, fun i u hi => ?_⟩
      match i, hi with
      | 0, hi => injection hi with hi; subst hi; exact g0
      | 1, hi => injection hi with hi; subst hi; exact g1
      | 2, hi => injection hi with hi; subst hi; exact g2
      | i + 3, hi => cases hi
    · have h1 := bulk_len (elems.map (·.1))
      rw [List.length_map, hlen] at h1
      rw [uptoBulk, List.length_map, List.length_range]
      omega
    · intro t ht
      obtain ⟨i, hi, rfl⟩ := List.mem_map.1 ht
      obtain ⟨n0, s, n2, q, g0, g1, g2, he⟩ := key i (List.mem_range.1 hi)
      have hb := bulk_mem (elems.map (·.1)) _ (List.mem_map.2 ⟨_, List.mem_of_getElem? he, rfl⟩)
      have hs : (tokAt W ad i).f1 = s := by unfold tokAt; rw [g1]
      rw [hs, size_len]
      simp only [uptoBulk, uptoBulkAll] at hb ⊢
      omega
end Go.Proofs.YtcpknmffnglegaaDoor.X
/- LexTells: of any text, any tokens all is told as the chapter says (what is read is of no great bulk). -/
namespace Go.Proofs.YtcpknmffnglegaaDoor.X
open Go.RowKit Go.Proofs.YtcpknmffnglegaaDoorW.PrintWords
set_option linter.unusedSimpArgs false
set_option linter.unusedVariables false

set_option maxHeartbeats 4000000 in
set_option maxRecDepth 100000 in
theorem lawTells (w : World) (hG : GL w) (s : List UInt8) (hs : s.length ≤ 140737488351232) (A : Option Addr) (c : Nat) (l : List TokT) (hr : Reads w A c l) (hl : l.length ≤ 1048576) (ht : ∀ t ∈ l, t.f1.size ≤ 1048576) :
    Calls Tryd.prog 3 #[.string (B s), .slice A l.length c] w fun e w' => e = .returned (.bool true) ∧ Below w.heap.size w w' := by
  have HE := Aside0.mk (examplesC w hG)
  have HG := Aside0.mk hG
  have R0 := Aside0.mk hr
  clear hG hr
  have hpb := print_bound l 1048576 ht
  have hpl : (printL l).length ≤ 140737488355328 := by omega
  have hlr : (lexR s).1.length ≤ 4000000000000 := by
    unfold lexR
    by_cases h : s.length > 65536
    · rw [if_pos h]; simp
    · rw [if_neg h]
      cases hk : tokL s with
      | none => simp
      | some ts =>
        have := (tokL_all s.length s ts (Nat.le_refl _) hk).2.2
        show ts.length ≤ _
        omega
  have K1 := fun W hW => lexC s (by omega) W hW
  have K2 := fun W => refLexC s (by omega) W
  have K3 := fun A A' c c' W h h' => sameToksC (lexR s).1 hlr A A' c c' W h h'
  obtain ⟨T, hT⟩ : ∃ x, lexR s = x := ⟨_, rfl⟩
  rw [hT] at K1 K2 K3
  obtain ⟨t, r⟩ := T
  have K1 := Aside0.mk K1
  have K2 := Aside0.mk K2
  have K3 := Aside0.mk K3
  have K4 := fun A c W hG h => rightC l A c (fun t h => by have := ht t h; omega) W hG h
  have K5 := Aside0.mk (fun A c W h => refToksC l (by omega) A c W h)
  have K6 := fun A c W h => refRightC l (by omega) A c W h
  have K7 := fun A c W h => printC l A c (by omega) hpl W h
  have K8 := fun A c W h => refPrintC l (by omega) hpl A c W h
  obtain ⟨q, hq⟩ : ∃ x, l.all rightT = x := ⟨_, rfl⟩
  obtain ⟨p, hp⟩ : ∃ x, B (printL l) = x := ⟨_, rfl⟩
  rw [hq] at K4 K6
  rw [hp] at K7 K8
  have K4 := Aside0.mk K4
  have K6 := Aside0.mk K6
  have K7 := Aside0.mk K7
  have K8 := Aside0.mk K8
  have K9 := fun W hW => keywordC (B s) W hW
  have K10 := fun W => refKeyC (B s) W
  obtain ⟨y, hy⟩ : ∃ x, isKey (B s) = x := ⟨_, rfl⟩
  rw [hy] at K9 K10
  have K9 := Aside0.mk K9
  have K10 := Aside0.mk K10
  clear hq hp hy hT hpb hpl hlr ht hl hs
  go_enter Tryd.func3, Tryd.ntmps3
  go_wp2_with fail
  refine HE.out.mono ?_
  rintro e w1 ⟨rfl, hb⟩
  have HB1 := Aside0.mk hb
  clear hb
  go_wp2_with fail
  refine (K1.out _ (HG.out.below HB1.out)).mono ?_
  rintro e w2 ⟨A1, c1, rfl, hr1, -, hb⟩
  have R1 := Aside0.mk hr1
  have HB2 := Aside0.mk (below_step HB1.out hb)
  clear hb hr1 HB1
  go_wp2_with fail
  refine (K2.out _).mono ?_
  rintro e w3 ⟨A2, c2, rfl, hr2, hb⟩
  have R1 := Aside0.mk (R1.out.below hb)
  have R2 := Aside0.mk hr2
  have HB3 := Aside0.mk (below_step HB2.out hb)
  clear hb hr2 HB2
  go_wp2_with fail
  refine (K3.out _ _ _ _ _ R1.out R2.out).mono ?_
  rintro e w4 ⟨rfl, hb⟩
  have HB4 := Aside0.mk (below_step HB3.out hb)
  clear hb HB3
  go_wp2_with fail
  refine (K4.out _ _ _ (HG.out.below HB4.out) (R0.out.below HB4.out)).mono ?_
  rintro e w5 ⟨rfl, hb⟩
  have HB5 := Aside0.mk (below_step HB4.out hb)
  clear hb HB4
  go_wp2_with fail
  refine (K5.out _ _ _ (R0.out.below HB5.out)).mono ?_
  rintro e w6 ⟨A6, c6, rfl, hr6, hb⟩
  have R6 := Aside0.mk hr6
  have HB6 := Aside0.mk (below_step HB5.out hb)
  clear hb hr6 HB5
  go_wp2_with fail
  refine (K6.out _ _ _ R6.out).mono ?_
  rintro e w7 ⟨rfl, hb⟩
  have HB7 := Aside0.mk (below_step HB6.out hb)
  clear hb HB6 R6
  go_wp2_with fail
  refine (K7.out _ _ _ (R0.out.below HB7.out)).mono ?_
  rintro e w8 ⟨rfl, hb⟩
  have HB8 := Aside0.mk (below_step HB7.out hb)
  clear hb HB7
  go_wp2_with fail
  refine (K5.out _ _ _ (R0.out.below HB8.out)).mono ?_
  rintro e w9 ⟨A9, c9, rfl, hr9, hb⟩
  have R9 := Aside0.mk hr9
  have HB9 := Aside0.mk (below_step HB8.out hb)
  clear hb hr9 HB8
  go_wp2_with fail
  refine (K8.out _ _ _ R9.out).mono ?_
  rintro e w10 ⟨rfl, hb⟩
  have HB10 := Aside0.mk (below_step HB9.out hb)
  clear hb HB9 R9
  go_wp2_with fail
  refine (K9.out _ (HG.out.below HB10.out)).mono ?_
  rintro e w11 ⟨rfl, hb⟩
  have HB11 := Aside0.mk (below_step HB10.out hb)
  clear hb HB10
  go_wp2_with fail
  refine (K10.out _).mono ?_
  rintro e w12 ⟨rfl, hb⟩
  have HB12 := Aside0.mk (below_step HB11.out hb)
  clear hb HB11
  go_wp2_with fail
  go_ret
  exact ⟨by first | rfl | simp, HB12.out⟩
end Go.Proofs.YtcpknmffnglegaaDoor.X

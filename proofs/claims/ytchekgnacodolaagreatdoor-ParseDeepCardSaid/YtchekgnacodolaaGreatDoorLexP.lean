/- The plain law of chancel/lex: what the printed functions compute, as plain functions on lists of bytes. -/
import Derived.Test.YtchekgnacodolaaGreatDoorXlexLex
import Derived.Test.YtchekgnacodolaaGreatDoorXlexPrint
import Derived.Test.YtchekgnacodolaaGreatDoorHright
namespace Go.Proofs.YtchekgnacodolaaGreatDoor.X
open Go.RowKit Go.Proofs.YtchekgnacodolaaGreatDoorW.PrintWords
set_option linter.unusedSimpArgs false
set_option linter.unusedVariables false

abbrev TokT := S106
def B (l : List UInt8) : ByteArray := ⟨l.toArray⟩
theorem B_list (l : List UInt8) : (B l).data.toList = l := rfl
theorem B_size (l : List UInt8) : (B l).size = l.length := by simp [B, ByteArray.size]
theorem B_of (s : ByteArray) : B s.data.toList = s := by cases s; simp [B]
theorem size_len (s : ByteArray) : s.size = s.data.toList.length := by rw [Array.length_toList]; rfl
theorem B_inj {l m : List UInt8} (h : B l = B m) : l = m := by rw [← B_list l, h, B_list]
theorem B_append (l m : List UInt8) : B l ++ B m = B (l ++ m) := by
  apply ByteArray.ext; simp [B, ByteArray.data_append]
theorem B_extract (l : List UInt8) (a b : Nat) : (B l).extract a b = B ((l.drop a).take (b - a)) := by
  rw [← B_of ((B l).extract a b), Lib.extract_data]; rfl
theorem B_toList (l : List UInt8) : (B l).toList = l := by rw [ByteArray.toList_eq]; rfl
theorem bt_B (l : List UInt8) (i : Nat) (h : i < l.length) : bt (B l) (i : Int) = ((l[i]'h).toNat : Int) := by
  unfold bt
  rw [dif_pos (by rw [B_size]; simpa using h)]
  rfl
theorem wrap_id {x : Int} (h0 : -9223372036854775808 ≤ x) (h1 : x ≤ 9223372036854775807) : wrap64 x = x := by
  unfold wrap64; omega

def isDig (b : UInt8) : Bool := 48 ≤ b.toNat && b.toNat ≤ 57
def isLet (b : UInt8) : Bool := (97 ≤ b.toNat && b.toNat ≤ 122) || (65 ≤ b.toNat && b.toNat ≤ 90)
def isWord (b : UInt8) : Bool := isLet b || isDig b

abbrev digitSet : ByteArray := ⟨#[48, 49, 50, 51, 52, 53, 54, 55, 56, 57]⟩
abbrev wordSet : ByteArray := ⟨#[97, 98, 99, 100, 101, 102, 103, 104, 105, 106, 107, 108, 109, 110, 111, 112, 113, 114, 115, 116, 117, 118, 119, 120, 121, 122, 65, 66, 67, 68, 69, 70, 71, 72, 73, 74, 75, 76, 77, 78, 79, 80, 81, 82, 83, 84, 85, 86, 87, 88, 89, 90, 48, 49, 50, 51, 52, 53, 54, 55, 56, 57]⟩

theorem all_bytes {p : UInt8 → Bool} (h : (List.range 256).all (fun n => p (UInt8.ofNat n)) = true) (b : UInt8) : p b = true := by
  have := List.all_eq_true.1 h b.toNat (by simp; exact b.toNat_lt)
  simpa using this
theorem inSet_digits (b : UInt8) : inSet digitSet b.toNat = isDig b := by
  have := all_bytes (p := fun b => inSet digitSet b.toNat == isDig b) (by decide +kernel) b
  simpa using this
theorem inSet_words (b : UInt8) : inSet wordSet b.toNat = isWord b := by
  have := all_bytes (p := fun b => inSet wordSet b.toNat == isWord b) (by decide +kernel) b
  simpa using this
theorem indexByte_words (b : UInt8) : decide (0 ≤ Lib.indexByte wordSet.data.toList b) = isWord b := by
  have := all_bytes (p := fun b => decide (0 ≤ Lib.indexByte wordSet.data.toList b) == isWord b) (by decide +kernel) b
  simpa using this
theorem letter_eq (b : UInt8) : lat_letter.f (b.toNat : Int) = some (isLet b) := by
  have := all_bytes (p := fun b => lat_letter.f (b.toNat : Int) == some (isLet b)) (by decide +kernel) b
  simpa using this

/-! ### lat.Name -/
def nameL (l : List UInt8) : Bool := match l with
  | [] => false
  | b :: r => isLet b && r.all isWord && decide (l.length ≤ 16)
def nameFrom (i : Nat) (l : List UInt8) : Bool := match i, l with
  | _, [] => true
  | 0, b :: r => isLet b && r.all isWord
  | _, l => l.all isWord
theorem name_loop (l : List UInt8) (hl : l.length ≤ 9223372036854775806) (d : Nat) : ∀ (k i : Nat), i ≤ l.length → l.length - i = d → d < k →
    lat_Name.l0 k (B l) ((B l).size : Int) (i : Int) = some (nameFrom i (l.drop i) && decide (0 < l.length ∧ l.length ≤ 16)) := by
  induction d with
  | zero =>
    intro k i h1 h2 h3
    obtain ⟨k, rfl⟩ : ∃ m, k = m + 1 := ⟨k - 1, by omega⟩
    have hi : i = l.length := by omega
    subst hi
    simp only [lat_Name.l0]
    rw [B_size, if_neg (by omega), List.drop_length]
    have : nameFrom l.length [] = true := by cases h : l.length <;> rfl
    rw [this]
    by_cases h0 : 0 < l.length
    · rw [if_pos (by omega)]; simp [h0]; omega
    · rw [if_neg (by omega)]; simp [h0]
  | succ d ih =>
    intro k i h1 h2 h3
    obtain ⟨k, rfl⟩ : ∃ m, k = m + 1 := ⟨k - 1, by omega⟩
    have hlt : i < l.length := by omega
    have hgo := ih k (i + 1) (by omega) (by omega) (by omega)
    simp only [lat_Name.l0]
    rw [B_size] at hgo ⊢
    rw [if_pos (by omega), if_pos (by omega), if_pos (by omega), bt_B l i hlt, letter_eq]
    have hw : wrap64 ((i : Int) + 1) = ((i + 1 : Nat) : Int) := by rw [wrap_id (by omega) (by omega)]; rfl
    simp only [Option.bind_some]
    rw [hw, hgo]
    have hd : l.drop i = l[i] :: l.drop (i + 1) := List.drop_eq_getElem_cons hlt
    rw [hd]
    have hnf : nameFrom (i + 1) (l.drop (i + 1)) = (l.drop (i + 1)).all isWord := by
      cases h : l.drop (i + 1) <;> simp [nameFrom]
    rw [hnf]
    generalize hb : l[i] = b
    have key : nameFrom i (b :: l.drop (i + 1)) = ((if i = 0 then isLet b else isWord b) && (l.drop (i + 1)).all isWord) := by
      cases i with
      | zero => simp [nameFrom]
      | succ i => simp [nameFrom]
    rw [key]
    by_cases h48 : (b.toNat : Int) ≥ 48
    · rw [if_pos h48]
      cases hL : isLet b with
      | true =>
        rw [if_pos rfl]
        have : isWord b = true := by simp [isWord, hL]
        rw [this]; simp
      | false =>
        rw [if_neg (by simp)]
        by_cases hi0 : (i : Int) = 0
        · rw [if_pos hi0, if_pos (show i = 0 by omega)]; simp
        · rw [if_neg hi0, if_neg (show ¬ i = 0 by omega)]
          by_cases h57 : (b.toNat : Int) ≤ 57
          · rw [if_pos h57]
            have : isWord b = true := by simp [isWord, isDig]; right; omega
            rw [this]; simp
          · rw [if_neg h57]
            have : isWord b = false := by simp [isWord, isDig, hL]; omega
            rw [this]; simp
    · rw [if_neg h48]
      have hL : isLet b = false := by simp [isLet]; omega
      have hW : isWord b = false := by simp [isWord, isLet, isDig]; omega
      rw [hL, if_neg (by simp), hW]
      by_cases hi0 : (i : Int) = 0
      · rw [if_pos hi0]; simp
      · rw [if_neg hi0]; simp
theorem name_eq (l : List UInt8) (hl : l.length ≤ 9223372036854775806) (k : Nat) (hk : l.length < k) : lat_Name.f k (B l) = some (nameL l) := by
  unfold lat_Name.f
  have := name_loop l hl l.length k 0 (by omega) (by omega) hk
  rw [show ((0 : Nat) : Int) = 0 from rfl] at this
  rw [this, List.drop_zero]
  cases l with
  | nil => rfl
  | cons b r => simp [nameFrom, nameL]

/-! ### What stands at a text's beginning -/
structure Nx where
  kind : Int
  text : List UInt8
  n : Int
  long : Nat
  ok : Bool
def markL (l : List UInt8) : Option (List UInt8) := (markWords[markIdx (B l)]?).map (·.data.toList)
def wordTok (d : List UInt8) : Nx := if isKey (B d) = true then ⟨3, d, 0, d.length, true⟩ else ⟨1, d, 0, d.length, nameL d⟩
def nextL : List UInt8 → Nx
  | [] => ⟨0, [], 0, 0, false⟩
  | b :: l =>
    if b.toNat = 35 then ⟨0, [], 0, ((b :: l).takeWhile (· != 10)).length, true⟩
    else if b.toNat = 32 ∨ b.toNat = 10 then ⟨0, [], 0, 1, true⟩
    else if isDig b = true then ⟨2, (b :: l).takeWhile isDig, (numOf (B ((b :: l).takeWhile isDig))).1, ((b :: l).takeWhile isDig).length, (numOf (B ((b :: l).takeWhile isDig))).2⟩
    else if isWord b = true then wordTok ((b :: l).takeWhile isWord)
    else match markL (b :: l) with
      | some m => ⟨4, m, 0, m.length, true⟩
      | none => ⟨0, [], 0, 0, false⟩

theorem nextL_cons (b : UInt8) (l : List UInt8) : nextL (b :: l) =
    if b.toNat = 35 then ⟨0, [], 0, ((b :: l).takeWhile (· != 10)).length, true⟩
    else if b.toNat = 32 ∨ b.toNat = 10 then ⟨0, [], 0, 1, true⟩
    else if isDig b = true then ⟨2, (b :: l).takeWhile isDig, (numOf (B ((b :: l).takeWhile isDig))).1, ((b :: l).takeWhile isDig).length, (numOf (B ((b :: l).takeWhile isDig))).2⟩
    else if isWord b = true then wordTok ((b :: l).takeWhile isWord)
    else match markL (b :: l) with
      | some m => ⟨4, m, 0, m.length, true⟩
      | none => ⟨0, [], 0, 0, false⟩ := rfl
theorem run_eq (l : List UInt8) (set : ByteArray) (p : UInt8 → Bool) (ha : asciiSet set = true) (hp : ∀ b, inSet set b.toNat = p b) (hl : l.length ≤ 140737488355328) :
    lex_run.f (B l) set = some ((l.takeWhile p).length : Int) := by
  unfold lex_run.f lex_cutLeft.f
  rw [if_pos ⟨ha, by rw [B_size]; exact hl⟩]
  simp only [Option.bind_some]
  have h1 : (l.takeWhile p).length + (l.dropWhile p).length = l.length := by
    rw [← List.length_append, List.takeWhile_append_dropWhile]
  have h2 : (fun b : UInt8 => inSet set b.toNat) = p := funext hp
  rw [show (B l).data.toList = l from rfl, h2]
  rw [B_size, show (⟨(l.dropWhile p).toArray⟩ : ByteArray) = B (l.dropWhile p) from rfl, B_size, wrap_id (by omega) (by omega)]
  congr 1
  omega

theorem index_nl : ∀ l : List UInt8, (Lib.index l [10] = -1 ∧ l.takeWhile (· != 10) = l) ∨ (Lib.index l [10] = ((l.takeWhile (· != 10)).length : Int))
  | [] => by left; simp [Lib.index]
  | b :: l => by
    unfold Lib.index
    by_cases hb : b = 10
    · subst hb
      right
      simp
    · have h1 : ([10] : List UInt8).isPrefixOf (b :: l) = false := by simp [List.isPrefixOf]; first | done | exact fun h => hb h.symm
      rw [if_neg (by rw [h1]; simp)]
      have h2 : (b :: l).takeWhile (· != 10) = b :: l.takeWhile (· != 10) := by simp [hb]
      rw [h2]
      rcases index_nl l with ⟨h, h3⟩ | h
      · left; rw [h, h3]; simp
      · right
        rw [h]
        rw [if_neg (by simp)]
        simp
theorem cut_nl (l : List UInt8) : (Lib.cut l [10]).1 = l.takeWhile (· != 10) := by
  unfold Lib.cut
  rcases index_nl l with ⟨h, h3⟩ | h
  · rw [h, if_neg (by decide)]; exact h3.symm
  · rw [h, if_pos (by omega)]
    simp only [Int.toNat_natCast]
    have : l.takeWhile (· != 10) <+: l := List.takeWhile_prefix _
    exact (List.prefix_iff_eq_take.1 this).symm

theorem token_eq (k : Nat) (d : List UInt8) (hd : d.length ≤ 9223372036854775806) (hk : d.length < k) :
    lex_token.f k (B d) = some ((wordTok d).kind, B (wordTok d).text, (wordTok d).n, (wordTok d).ok) := by
  unfold lex_token.f lex_Keyword.f
  simp only [Option.bind_some]
  unfold wordTok
  by_cases h : isKey (B d) = true
  · rw [if_pos h, if_pos h]
  · rw [if_neg h, if_neg h, name_eq d hd k hk]; rfl
theorem wordTok_text (d : List UInt8) : (wordTok d).text = d := by unfold wordTok; split <;> rfl
theorem wordTok_long (d : List UInt8) : (wordTok d).long = d.length := by unfold wordTok; split <;> rfl

theorem mark_eq (l : List UInt8) : lex_mark.f (B l) = some (match markL l with | some m => (4, B m, 0, true) | none => (0, B [], 0, false)) := by
  unfold lex_mark.f markL
  by_cases h : markIdx (B l) < 13
  · rw [if_pos h]
    have h1 : markIdx (B l) < markWords.length := h
    rw [List.getElem?_eq_getElem h1]
    simp only [Option.map_some]
    rw [B_of, List.getD_eq_getElem?_getD, List.getElem?_eq_getElem h1]; rfl
  · rw [if_neg h]
    have h1 : ¬ markIdx (B l) < markWords.length := h
    rw [List.getElem?_eq_none (by omega)]; rfl

theorem take_size (l : List UInt8) (p : UInt8 → Bool) : (B l).extract 0 (((l.takeWhile p).length : Int)).toNat = B (l.takeWhile p) := by
  rw [B_extract, Int.toNat_natCast, List.drop_zero, Nat.sub_zero]
  exact congrArg B (List.prefix_iff_eq_take.1 (List.takeWhile_prefix p)).symm
theorem tw_le (l : List UInt8) (p : UInt8 → Bool) : (l.takeWhile p).length ≤ l.length := (List.takeWhile_prefix p).length_le

theorem next_eq (k : Nat) (b : UInt8) (l : List UInt8) (hl : (b :: l).length ≤ 65536) (hk : (b :: l).length + 1 < k) :
    lex_next.f k (B (b :: l)) = some ((nextL (b :: l)).kind, B (nextL (b :: l)).text, (nextL (b :: l)).n, ((nextL (b :: l)).long : Int), (nextL (b :: l)).ok) := by
  have hb0 : bt (B (b :: l)) 0 = (b.toNat : Int) := bt_B (b :: l) 0 (by simp)
  have hlen : 0 < (b :: l).length := by simp
  have hdig := tw_le (b :: l) isDig
  have hwrd := tw_le (b :: l) isWord
  unfold lex_next.f
  rw [nextL_cons, hb0, B_size, if_pos (by omega)]
  by_cases h35 : b.toNat = 35
  · rw [if_pos (by omega), if_pos h35]
    unfold strings_Cut.f
    rw [if_pos (by rw [B_size]; omega)]
    simp only [Option.bind_some]
    show some (0, _, 0, (((B (Lib.cut (b :: l) [10]).1).size : Nat) : Int), true) = _
    rw [B_size, cut_nl]
    rfl
  · rw [if_neg (show ¬ (b.toNat : Int) = 35 by omega), if_neg h35]
    by_cases h32 : b.toNat = 32
    · rw [if_pos (by omega), if_pos (Or.inl h32)]; rfl
    · rw [if_neg (show ¬ (b.toNat : Int) = 32 by omega)]
      by_cases h10 : b.toNat = 10
      · rw [if_pos (by omega), if_pos (Or.inr h10)]; rfl
      · rw [if_neg (show ¬ (b.toNat : Int) = 10 by omega), if_neg (show ¬ (b.toNat = 32 ∨ b.toNat = 10) by omega)]
        obtain ⟨k, rfl⟩ : ∃ m, k = m + 1 := ⟨k - 1, by omega⟩
        by_cases hd : isDig b = true
        · have hd2 : 48 ≤ b.toNat ∧ b.toNat ≤ 57 := by simpa [isDig] using hd
          rw [if_pos (by omega), if_pos hd]
          simp only [lex_next.j0]
          rw [if_pos (by simp; omega)]
          rw [show (⟨#[48, 49, 50, 51, 52, 53, 54, 55, 56, 57]⟩ : ByteArray) = digitSet from rfl, run_eq (b :: l) digitSet isDig (by decide +kernel) inSet_digits (by omega)]
          simp only [Option.bind_some]
          rw [if_pos (by omega), if_pos (by rw [B_size]; omega), take_size]
          unfold lex_number.f
          rw [if_pos (by rw [B_size]; omega)]
          rfl
        · rw [if_neg hd]
          have hj : (if (b.toNat : Int) ≥ 48 then lex_next.j0 (k + 1) (B (b :: l)) (b.toNat : Int) (decide ((b.toNat : Int) ≤ 57)) else lex_next.j0 (k + 1) (B (b :: l)) (b.toNat : Int) false) = lex_next.j0 (k + 1) (B (b :: l)) (b.toNat : Int) false := by
            split
            · have : decide ((b.toNat : Int) ≤ 57) = false := by
                simp [isDig] at hd
                simp; omega
              rw [this]
            · rfl
          rw [hj]
          simp only [lex_next.j0]
          rw [if_neg (by decide)]
          unfold strings_IndexByte.f
          simp only [Option.bind_some]
          have hib : (0 ≤ Lib.indexByte wordSet.data.toList b) ↔ isWord b = true := by
            rw [← indexByte_words b]; simp
          have he : ((b.toNat : Int)).toNat.toUInt8 = b := by simp
          rw [he]
          by_cases hw : isWord b = true
          · rw [if_pos (hib.2 hw), if_pos hw]
            rw [run_eq (b :: l) wordSet isWord (by decide +kernel) inSet_words (by omega)]
            simp only [Option.bind_some]
            rw [if_pos (by omega), if_pos (by rw [B_size]; omega), take_size, token_eq k _ (by omega) (by omega)]
            simp only [Option.bind_some]
            rw [wordTok_long]
          · rw [if_neg (fun h => hw (hib.1 h)), if_neg hw, mark_eq]
            cases hm : markL (b :: l) with
            | none => simp only [Option.bind_some]; rfl
            | some m => simp only [Option.bind_some]; rw [B_size]
end Go.Proofs.YtchekgnacodolaaGreatDoor.X

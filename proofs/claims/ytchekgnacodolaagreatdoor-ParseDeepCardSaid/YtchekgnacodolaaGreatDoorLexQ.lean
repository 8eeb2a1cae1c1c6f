/- The plain law of chancel/lex, on: all tokens of a text; what is printed; that both go back and forth. -/
import Derived.Test.YtchekgnacodolaaGreatDoorLexP
namespace Go.Proofs.YtchekgnacodolaaGreatDoor.X
open Go.RowKit Go.Proofs.YtchekgnacodolaaGreatDoorW.PrintWords
set_option linter.unusedSimpArgs false
set_option linter.unusedVariables false

theorem tw_append (p : UInt8 → Bool) (l t : List UInt8) (ht : t = [] ∨ ∃ c r, t = c :: r ∧ p c = false) : (l ++ t).takeWhile p = l.takeWhile p := by
  induction l with
  | nil =>
    rcases ht with rfl | ⟨c, r, rfl, hc⟩
    · rfl
    · simp [hc]
  | cons b l ih =>
    simp only [List.cons_append, List.takeWhile_cons]
    split
    · rw [ih]
    · rfl
theorem tw_all (p : UInt8 → Bool) (l : List UInt8) (h : l.all p = true) : l.takeWhile p = l := by
  induction l with
  | nil => rfl
  | cons b l ih =>
    simp at h
    rw [List.takeWhile_cons, if_pos h.1, ih (by simpa using h.2)]

theorem markL_mem {l m : List UInt8} (h : markL l = some m) : m ∈ markWords.map (·.data.toList) ∧ m.isPrefixOf l = true := by
  unfold markL at h
  rw [Option.map_eq_some_iff] at h
  obtain ⟨x, hx, rfl⟩ := h
  refine ⟨List.mem_map.2 ⟨x, List.mem_of_getElem? hx, rfl⟩, ?_⟩
  have hlt : markWords.findIdx (preOf (B l)) < markWords.length := by
    rcases Nat.lt_or_ge (markWords.findIdx (preOf (B l))) markWords.length with h | h
    · exact h
    · unfold markIdx at hx
      rw [List.getElem?_eq_none h] at hx; cases hx
  have h1 := List.findIdx_getElem (w := hlt)
  unfold markIdx at hx
  rw [List.getElem?_eq_getElem hlt] at hx
  injection hx with hx
  rw [hx] at h1
  exact h1

/-- What may stand behind a token: nothing, a blank, a line feed, a note. -/
def Sep (t : List UInt8) : Prop := t = [] ∨ ∃ c r, t = c :: r ∧ (c = 32 ∨ c = 10 ∨ c = 35)
theorem Sep.not {t : List UInt8} (h : Sep t) (p : UInt8 → Bool) (h1 : p 32 = false) (h2 : p 10 = false) (h3 : p 35 = false) : t = [] ∨ ∃ c r, t = c :: r ∧ p c = false := by
  rcases h with h | ⟨c, r, h, hc⟩
  · exact .inl h
  · refine .inr ⟨c, r, h, ?_⟩
    rcases hc with rfl | rfl | rfl <;> assumption
theorem prefix_sep (m l t : List UInt8) (ht : Sep t) (hm : ∀ c ∈ m, c ≠ 32 ∧ c ≠ 10 ∧ c ≠ 35) : m.isPrefixOf (l ++ t) = m.isPrefixOf l := by
  induction l generalizing m with
  | nil =>
    cases m with
    | nil => simp [List.isPrefixOf]
    | cons c m =>
      rcases ht with rfl | ⟨d, r, rfl, hd⟩
      · rfl
      · have := hm c (by simp)
        have hne : c ≠ d := by
          rcases hd with rfl | rfl | rfl
          · exact this.1
          · exact this.2.1
          · exact this.2.2
        simp [List.isPrefixOf, hne]
  | cons b l ih =>
    cases m with
    | nil => simp [List.isPrefixOf]
    | cons c m =>
      simp only [List.cons_append, List.isPrefixOf]
      rw [ih m fun x hx => hm x (by simp [hx])]
theorem marks_plain : ∀ m ∈ markWords, ∀ c ∈ m.data.toList, c ≠ 32 ∧ c ≠ 10 ∧ c ≠ 35 := by
  have : markWords.all (fun m => m.data.toList.all fun c => c != 32 && c != 10 && c != 35) = true := by decide +kernel
  intro m hm c hc
  have h1 := List.all_eq_true.1 this m hm
  have h2 := List.all_eq_true.1 h1 c hc
  simpa [and_assoc] using h2
theorem findIdx_congr' {α : Type} {p q : α → Bool} : ∀ {l : List α}, (∀ x ∈ l, p x = q x) → l.findIdx p = l.findIdx q
  | [], _ => rfl
  | x :: l, h => by
    rw [List.findIdx_cons, List.findIdx_cons, h x (by simp), findIdx_congr' fun y hy => h y (by simp [hy])]
theorem markL_sep (l t : List UInt8) (ht : Sep t) : markL (l ++ t) = markL l := by
  unfold markL markIdx
  rw [findIdx_congr' (p := preOf (B (l ++ t))) (q := preOf (B l)) fun m hm => prefix_sep m.data.toList l t ht (marks_plain m hm)]

theorem isKey_plain {d : List UInt8} (h : isKey (B d) = true) : d ≠ [] ∧ d.all isLet = true := by
  have h1 := (isKey_iff (B d)).1 h
  have : keyWords.all (fun m => m.data.toList != [] && m.data.toList.all isLet) = true := by decide +kernel
  have h2 := List.all_eq_true.1 this _ h1
  rw [B_list] at h2
  simp only [Bool.and_eq_true, bne_iff_ne] at h2
  exact h2
theorem let_word {l : List UInt8} (h : l.all isLet = true) : l.all isWord = true := by
  rw [List.all_eq_true] at h ⊢
  intro b hb
  simp [isWord, h b hb]

/-! ### the next token -/
theorem dig_word {b : UInt8} (h : isDig b = true) : isWord b = true := by simp [isWord, h]
theorem nextL_long {b : UInt8} {l : List UInt8} (h : (nextL (b :: l)).ok = true) : 1 ≤ (nextL (b :: l)).long ∧ (nextL (b :: l)).long ≤ (b :: l).length := by
  rw [nextL_cons] at h ⊢
  split
  · rename_i h35
    have hb : (b != 10) = true := by
      rw [bne_iff_ne]; intro e; rw [e] at h35; exact absurd h35 (by decide)
    exact ⟨by rw [List.takeWhile_cons, if_pos hb]; simp, tw_le _ _⟩
  · split
    · exact ⟨Nat.le_refl _, by simp⟩
    · split
      · rename_i hd
        exact ⟨by rw [List.takeWhile_cons, if_pos hd]; simp, tw_le _ _⟩
      · split
        · rename_i hw
          rw [wordTok_long]
          exact ⟨by rw [List.takeWhile_cons, if_pos hw]; simp, tw_le _ _⟩
        · rename_i h1 h2 h3 h4
          rw [if_neg h1, if_neg h2, if_neg h3, if_neg h4] at h
          cases hm : markL (b :: l) with
          | none => rw [hm] at h; cases h
          | some m =>
            obtain ⟨hmem, hpre⟩ := markL_mem hm
            have hne : (markWords.map (·.data.toList)).all (fun m => 1 ≤ m.length) = true := by decide +kernel
            have := List.all_eq_true.1 hne m hmem
            exact ⟨by simpa using this, (List.isPrefixOf_iff_prefix.1 hpre).length_le⟩

/-- Behind a token there may stand what parts tokens: the token is the same. -/
theorem nextL_nl (b : UInt8) (l t : List UInt8) : nextL (b :: l ++ 10 :: t) = nextL (b :: l) := by
  have hs : Sep (10 :: t) := .inr ⟨10, t, rfl, .inr (.inl rfl)⟩
  rw [List.cons_append, nextL_cons, nextL_cons, ← List.cons_append]
  rw [tw_append (· != 10) (b :: l) (10 :: t) (.inr ⟨10, t, rfl, rfl⟩), tw_append isDig (b :: l) (10 :: t) (hs.not _ rfl rfl rfl), tw_append isWord (b :: l) (10 :: t) (hs.not _ rfl rfl rfl), markL_sep (b :: l) _ hs]

/-! ### all tokens -/
def lexL : Nat → List UInt8 → Option (List TokT)
  | 0, _ => none
  | _ + 1, [] => some []
  | n + 1, b :: l =>
    if (nextL (b :: l)).ok = true then
      if (nextL (b :: l)).kind > 0 then (lexL n ((b :: l).drop (nextL (b :: l)).long)).map (⟨(nextL (b :: l)).kind, B (nextL (b :: l)).text, (nextL (b :: l)).n⟩ :: ·)
      else lexL n ((b :: l).drop (nextL (b :: l)).long)
    else none
theorem lexL_fuel : ∀ (n m : Nat) (l : List UInt8), l.length < n → l.length < m → lexL n l = lexL m l
  | 0, _, l, h, _ => absurd h (by omega)
  | _, 0, l, _, h => absurd h (by omega)
  | n + 1, m + 1, [], _, _ => rfl
  | n + 1, m + 1, b :: l, hn, hm => by
    unfold lexL
    by_cases hok : (nextL (b :: l)).ok = true
    · have hlong := nextL_long hok
      have hd : ((b :: l).drop (nextL (b :: l)).long).length < (b :: l).length := by rw [List.length_drop]; omega
      rw [lexL_fuel n m _ (by omega) (by omega)]
    · rw [if_neg hok, if_neg hok]
def tokL (l : List UInt8) : Option (List TokT) := lexL (l.length + 1) l
theorem tokL_nil : tokL [] = some [] := rfl
theorem tokL_cons (b : UInt8) (l : List UInt8) : tokL (b :: l) =
    if (nextL (b :: l)).ok = true then
      if (nextL (b :: l)).kind > 0 then (tokL ((b :: l).drop (nextL (b :: l)).long)).map (⟨(nextL (b :: l)).kind, B (nextL (b :: l)).text, (nextL (b :: l)).n⟩ :: ·)
      else tokL ((b :: l).drop (nextL (b :: l)).long)
    else none := by
  unfold tokL
  rw [show (b :: l).length + 1 = (b :: l).length + 1 from rfl, lexL]
  by_cases hok : (nextL (b :: l)).ok = true
  · have hlong := nextL_long hok
    have hd : ((b :: l).drop (nextL (b :: l)).long).length < (b :: l).length := by rw [List.length_drop]; omega
    rw [lexL_fuel (b :: l).length (((b :: l).drop (nextL (b :: l)).long).length + 1) _ hd (by omega)]
  · rw [if_neg hok, if_neg hok]

/-- Lex: P2.2. -/
def lexR (l : List UInt8) : List TokT × Int := if l.length > 65536 then ([], 1) else match tokL l with
  | some ts => (ts, 0)
  | none => ([], 2)

theorem lex_loop (d : Nat) : ∀ (k : Nat) (l : List UInt8) (acc : List TokT), l.length ≤ d → d ≤ 65536 → acc.length + l.length ≤ 65536 → 65540 + d < k →
    lex_Lex.l0 k (B l) acc = some (match tokL l with | some ts => (acc ++ ts, 0) | none => ([], 2)) := by
  induction d with
  | zero =>
    intro k l acc h1 h2 h3 h4
    obtain ⟨k, rfl⟩ : ∃ m, k = m + 1 := ⟨k - 1, by omega⟩
    cases l with
    | nil =>
      simp only [lex_Lex.l0]
      rw [B_toList, if_pos rfl, tokL_nil]; simp
    | cons b l => simp at h1
  | succ d ih =>
    intro k l acc h1 h2 h3 h4
    obtain ⟨k, rfl⟩ : ∃ m, k = m + 1 := ⟨k - 1, by omega⟩
    cases l with
    | nil =>
      simp only [lex_Lex.l0]
      rw [B_toList, if_pos rfl, tokL_nil]; simp
    | cons b l =>
      simp only [lex_Lex.l0]
      have hlen : (b :: l).length ≤ 65536 := by omega
      have hpos : 1 ≤ (b :: l).length := by simp
      rw [B_toList, if_neg (by simp), next_eq k b l hlen (by omega), tokL_cons]
      simp only [Option.bind_some]
      by_cases hok : (nextL (b :: l)).ok = true
      · have hlong := nextL_long hok
        have hd : ((b :: l).drop (nextL (b :: l)).long).length = (b :: l).length - (nextL (b :: l)).long := by rw [List.length_drop]
        have hex : (B (b :: l)).extract ((((nextL (b :: l)).long : Nat) : Int)).toNat (B (b :: l)).size = B ((b :: l).drop (nextL (b :: l)).long) := by
          rw [B_extract, Int.toNat_natCast, B_size, List.take_of_length_le (by rw [List.length_drop]; omega)]
        rw [if_pos hok, if_pos hok, hex]
        by_cases hk : (nextL (b :: l)).kind > 0
        · rw [if_pos hk, if_pos hk, if_pos (by omega), if_pos (by omega), if_pos (by rw [B_size]; omega)]
          rw [ih k _ _ (by omega) (by omega) (by rw [List.length_append]; simp only [List.length_cons, List.length_nil]; omega) (by omega)]
          cases tokL ((b :: l).drop (nextL (b :: l)).long) with
          | none => rfl
          | some ts => simp
        · rw [if_neg hk, if_neg hk, if_pos (by omega), if_pos (by rw [B_size]; omega)]
          rw [ih k _ _ (by omega) (by omega) (by omega) (by omega)]
      · rw [if_neg hok, if_neg hok]
theorem lex_eq (k : Nat) (l : List UInt8) (hl : l.length ≤ 9223372036854775807) (hk : 131080 < k) : lex_Lex.f k (B l) = some (lexR l) := by
  unfold lex_Lex.f lexR
  rw [B_size]
  by_cases h : l.length > 65536
  · rw [if_pos (by omega), if_pos h]
  · rw [if_neg (by omega), if_neg h, lex_loop l.length k l [] (Nat.le_refl _) (by omega) (by simp; omega) (by omega)]
    cases tokL l <;> simp

/-- Two texts, a line feed between. -/
theorem tokL_join (n : Nat) : ∀ (l t : List UInt8), l.length ≤ n → tokL (l ++ 10 :: t) = match tokL l with
    | some a => (tokL t).map (a ++ ·)
    | none => none := by
  induction n with
  | zero =>
    intro l t hl
    have : l = [] := List.length_eq_zero_iff.1 (by omega)
    subst this
    rw [List.nil_append, tokL_cons, tokL_nil]
    have : nextL (10 :: t) = ⟨0, [], 0, 1, true⟩ := by rw [nextL_cons, if_neg (by decide), if_pos (Or.inr (by decide))]
    rw [this]; simp
  | succ n ih =>
    intro l t hl
    cases l with
    | nil => exact ih [] t (by simp)
    | cons b l =>
      have h0 := tokL_cons b l
      have h1 := tokL_cons b (l ++ 10 :: t)
      rw [← List.cons_append, nextL_nl] at h1
      rw [h1]
      by_cases hok : (nextL (b :: l)).ok = true
      · have hlong := nextL_long hok
        have hd : (b :: l ++ 10 :: t).drop (nextL (b :: l)).long = (b :: l).drop (nextL (b :: l)).long ++ 10 :: t := List.drop_append_of_le_length hlong.2
        rw [hd, if_pos hok, ih _ t (by rw [List.length_drop]; omega), h0, if_pos hok]
        by_cases hk : (nextL (b :: l)).kind > 0
        · rw [if_pos hk, if_pos hk]
          cases tokL ((b :: l).drop (nextL (b :: l)).long) with
          | none => rfl
          | some a => cases tokL t <;> simp
        · rw [if_neg hk, if_neg hk]
      · rw [h0, if_neg hok, if_neg hok]

/-! ### right tokens -/
def rightT (t : TokT) : Bool :=
  if t.f0 = 1 ∨ t.f0 = 3 then (wordTok t.f1.data.toList).ok && (wordTok t.f1.data.toList).kind == t.f0 && t.f2 == 0
  else if t.f0 = 2 then (numOf t.f1).2 && decide (0 ≤ (numOf t.f1).1) && (numOf t.f1).1 == t.f2
  else if t.f0 = 4 then markL t.f1.data.toList == some t.f1.data.toList && t.f2 == 0
  else false
theorem wordTok_n (d : List UInt8) : (wordTok d).n = 0 := by unfold wordTok; split <;> rfl
theorem tok_right (k : Nat) (t : TokT) (h1 : t.f1.size ≤ 281474976710656) (hk : t.f1.size < k) : lex_Tok_right.f k t.f0 t.f1 t.f2 = some (rightT t) := by
  obtain ⟨f0, f1, f2⟩ := t
  simp only at h1 hk ⊢
  unfold lex_Tok_right.f rightT
  dsimp only
  have hB := B_of f1
  have hlen : f1.data.toList.length = f1.size := (size_len f1).symm
  have tk := token_eq k f1.data.toList (by omega) (by omega)
  rw [hB] at tk
  have hw : B (wordTok f1.data.toList).text = f1 := by rw [wordTok_text, hB]
  have hsw : ∀ a b : Int, (a == b) = (b == a) := fun a b => by rw [Bool.eq_iff_iff, beq_iff_eq, beq_iff_eq]; exact eq_comm
  by_cases e1 : f0 = 1
  · rw [if_pos e1, if_pos (Or.inl e1), tk]
    simp only [Option.bind_some]
    rw [hw, wordTok_n]
    cases (wordTok f1.data.toList).ok <;> simp [hsw 0 f2]
  · rw [if_neg e1]
    by_cases e3 : f0 = 3
    · rw [if_pos e3, if_pos (Or.inr e3), tk]
      simp only [Option.bind_some]
      rw [hw, wordTok_n]
      cases (wordTok f1.data.toList).ok <;> simp [hsw 0 f2]
    · rw [if_neg e3, if_neg (show ¬ (f0 = 1 ∨ f0 = 3) from fun h => h.elim e1 e3)]
      by_cases e2 : f0 = 2
      · rw [if_pos e2, if_pos e2]
        unfold lex_number.f
        rw [if_pos h1]
        simp only [Option.bind_some]
        cases (numOf f1).2 with
        | false => simp
        | true =>
          rw [if_pos rfl]
          by_cases h0 : (numOf f1).1 ≥ 0
          · rw [if_pos h0]; subst e2; simp; intro; omega
          · rw [if_neg h0]; simp; intro; omega
      · rw [if_neg e2, if_neg e2]
        by_cases e4 : f0 = 4
        · rw [if_pos e4, if_pos e4]
          have hm := mark_eq f1.data.toList
          rw [hB] at hm
          rw [hm]
          cases hq : markL f1.data.toList with
          | none => simp
          | some m =>
            simp only [Option.bind_some]
            subst e4
            have hbb : ((B m).data == f1.data) = (m == f1.data.toList) := by rw [Bool.eq_iff_iff, beq_iff_eq, beq_iff_eq, ← Array.toList_inj, B_list]
            simp [B_toList, ByteArray.toList_eq, hsw 0 f2]
            rw [hbb]
        · rw [if_neg e4, if_neg e4]
          by_cases e5 : f1.toList = []
          · rw [if_pos e5]
          · rw [if_neg e5]
            congr 1
            have : (([] : List UInt8) == f1.toList) = false := by simp [e5]; first | done | exact fun h => e5 h.symm
            rw [this]; simp
theorem right_eq (k : Nat) (l : List TokT) (h : ∀ t ∈ l, t.f1.size ≤ 281474976710656 ∧ t.f1.size < k) : lex_Right.f k l = some (l.all rightT) := by
  induction l with
  | nil => rfl
  | cons t l ih =>
    unfold lex_Right.f
    rw [tok_right k t (h t (by simp)).1 (h t (by simp)).2, ih fun x hx => h x (by simp [hx])]
    simp only [Option.bind_some, List.all_cons]
    cases rightT t <;> simp

/-! ### a right token behind which a text goes on -/
theorem decF_dig : ∀ k n, (decF k n).all isDig = true
  | 0, _ => rfl
  | k + 1, n => by
    unfold decF
    split
    · rename_i h
      simp [isDig]
      omega
    · simp [decF_dig k (n / 10), isDig]
      omega
theorem decF_ne (k n : Nat) : decF (k + 1) n ≠ [] := by unfold decF; split <;> simp
theorem num_right {d : List UInt8} (h : (numOf (B d)).2 = true) (h0 : 0 ≤ (numOf (B d)).1) : d ≠ [] ∧ d.all isDig = true := by
  unfold numOf at h h0
  cases hp : Lib.parseIntB 32 (B d).data.toList with
  | ok v =>
    rw [hp] at h h0
    simp only at h h0
    have e : itoaF v = d := by simpa [B_list] using h
    unfold itoaF at e
    rw [if_neg (by omega)] at e
    rw [← e]
    exact ⟨decF_ne _ _, decF_dig _ _⟩
  | _ => rw [hp] at h; cases h

theorem rightT_next (t : TokT) (h : rightT t = true) (r : List UInt8) (hr : Sep r) : t.f1.data.toList ≠ [] ∧ 0 < t.f0 ∧
    nextL (t.f1.data.toList ++ r) = ⟨t.f0, t.f1.data.toList, t.f2, t.f1.data.toList.length, true⟩ := by
  obtain ⟨f0, f1, f2⟩ := t
  obtain ⟨d, hd⟩ : ∃ d, f1 = B d := ⟨_, (B_of f1).symm⟩
  subst hd
  simp only [B_list] at *
  unfold rightT at h
  simp only [B_list] at h
  by_cases e13 : f0 = 1 ∨ f0 = 3
  · rw [if_pos e13] at h
    simp only [Bool.and_eq_true, beq_iff_eq] at h
    obtain ⟨⟨hok, hkind⟩, rfl⟩ := h
    have hplain : d ≠ [] ∧ d.all isWord = true ∧ ∀ b r, d = b :: r → isLet b = true := by
      unfold wordTok at hok
      by_cases hk : isKey (B d) = true
      · have := isKey_plain hk
        refine ⟨this.1, let_word this.2, fun b r e => ?_⟩
        rw [e] at this
        simpa using (List.all_eq_true.1 this.2 b (by simp))
      · rw [if_neg hk] at hok
        simp only [nameL] at hok
        cases d with
        | nil => cases hok
        | cons b r =>
          simp only [Bool.and_eq_true] at hok
          refine ⟨by simp, ?_, fun b' r' e => ?_⟩
          · rw [List.all_cons, hok.1.2]; simp [isWord, hok.1.1]
          · injection e with e1 e2; rw [← e1]; exact hok.1.1
    cases d with
    | nil => exact absurd rfl hplain.1
    | cons b d =>
      have hb := hplain.2.2 b d rfl
      have hb2 : (97 ≤ b.toNat ∧ b.toNat ≤ 122) ∨ (65 ≤ b.toNat ∧ b.toNat ≤ 90) := by simpa [isLet] using hb
      refine ⟨by simp, by rcases e13 with rfl | rfl <;> decide, ?_⟩
      rw [List.cons_append, nextL_cons, ← List.cons_append]
      rw [if_neg (by omega), if_neg (by omega), if_neg (by simp [isDig]; omega), if_pos (by simp [isWord, hb]), tw_append isWord (b :: d) r (hr.not _ rfl rfl rfl), tw_all isWord _ hplain.2.1]
      have h1 := wordTok_text (b :: d)
      have h2 := wordTok_long (b :: d)
      have h3 := wordTok_n (b :: d)
      cases hw : wordTok (b :: d) with
      | mk kk tt nn ll oo =>
        rw [hw] at h1 h2 h3 hok hkind
        simp only at h1 h2 h3 hok hkind
        subst h1 h2 h3 hok hkind
        rfl
  · rw [if_neg e13] at h
    by_cases e2 : f0 = 2
    · rw [if_pos e2] at h
      simp only [Bool.and_eq_true, beq_iff_eq, decide_eq_true_eq] at h
      obtain ⟨⟨hok, h0⟩, rfl⟩ := h
      subst e2
      have hp := num_right hok h0
      cases d with
      | nil => exact absurd rfl hp.1
      | cons b d =>
        have hb : isDig b = true := by simpa using (List.all_eq_true.1 hp.2 b (by simp))
        have hb2 : 48 ≤ b.toNat ∧ b.toNat ≤ 57 := by simpa [isDig] using hb
        refine ⟨by simp, by decide, ?_⟩
        rw [List.cons_append, nextL_cons, ← List.cons_append]
        rw [if_neg (by omega), if_neg (by omega), if_pos hb, tw_append isDig (b :: d) r (hr.not _ rfl rfl rfl), tw_all isDig _ hp.2, hok]
    · rw [if_neg e2] at h
      by_cases e4 : f0 = 4
      · rw [if_pos e4] at h
        simp only [Bool.and_eq_true, beq_iff_eq] at h
        obtain ⟨hm, rfl⟩ := h
        subst e4
        have hmem := (markL_mem hm).1
        have hpl : (markWords.map (·.data.toList)).all (fun m => match m with | [] => false | b :: _ => b.toNat != 35 && b.toNat != 32 && b.toNat != 10 && !isDig b && !isWord b) = true := by decide +kernel
        have hq := List.all_eq_true.1 hpl d hmem
        cases d with
        | nil => cases hq
        | cons b d =>
          simp only [Bool.and_eq_true, bne_iff_ne, Bool.not_eq_true'] at hq
          obtain ⟨⟨⟨⟨q1, q2⟩, q3⟩, q4⟩, q5⟩ := hq
          refine ⟨by simp, by decide, ?_⟩
          rw [List.cons_append, nextL_cons, ← List.cons_append]
          rw [if_neg q1, if_neg (by omega), if_neg (by rw [q4]; simp), if_neg (by rw [q5]; simp), markL_sep (b :: d) r hr, hm]
      · rw [if_neg e4] at h; cases h

theorem tokL_right (t : TokT) (h : rightT t = true) (r : List UInt8) (hr : Sep r) : tokL (t.f1.data.toList ++ r) = (tokL r).map (t :: ·) := by
  obtain ⟨h1, h2, h3⟩ := rightT_next t h r hr
  cases hd : t.f1.data.toList with
  | nil => exact absurd hd h1
  | cons b d =>
    rw [hd] at h3
    rw [List.cons_append] at h3 ⊢
    rw [tokL_cons, h3, if_pos rfl, if_pos h2, ← List.cons_append]
    simp only
    rw [List.drop_left]
    congr 1
    funext x
    congr 1
    obtain ⟨f0, f1, f2⟩ := t
    simp only at hd ⊢
    rw [← hd, B_of]

/-! ### Print -/
def printL : List TokT → List UInt8
  | [] => []
  | [t] => t.f1.data.toList
  | t :: u :: l => t.f1.data.toList ++ 32 :: printL (u :: l)
theorem printL_sep (t : TokT) (l : List TokT) : ∃ r, Sep r ∧ printL (t :: l) = t.f1.data.toList ++ r ∧ ((l = [] ∧ r = []) ∨ (l ≠ [] ∧ r = 32 :: printL l)) := by
  cases l with
  | nil => exact ⟨[], .inl rfl, by simp [printL], .inl ⟨rfl, rfl⟩⟩
  | cons u l => exact ⟨32 :: printL (u :: l), .inr ⟨32, _, rfl, .inl rfl⟩, rfl, .inr ⟨by simp, rfl⟩⟩
theorem tokL_blank (c : UInt8) (hc : c = 32 ∨ c = 10) (l : List UInt8) : tokL (c :: l) = tokL l := by
  have : nextL (c :: l) = ⟨0, [], 0, 1, true⟩ := by
    rw [nextL_cons]
    rcases hc with rfl | rfl
    · rw [if_neg (by decide), if_pos (Or.inl (by decide))]
    · rw [if_neg (by decide), if_pos (Or.inr (by decide))]
  rw [tokL_cons, this]; simp
/-- What is printed of right tokens is told again. -/
theorem tokL_print : ∀ (l : List TokT), l.all rightT = true → tokL (printL l) = some l
  | [], _ => tokL_nil
  | t :: l, h => by
    simp only [List.all_cons, Bool.and_eq_true] at h
    obtain ⟨r, hr, he, hc⟩ := printL_sep t l
    rw [he, tokL_right t h.1 r hr]
    rcases hc with ⟨rfl, rfl⟩ | ⟨_, rfl⟩
    · rw [tokL_nil]; rfl
    · rw [tokL_blank 32 (.inl rfl), tokL_print l h.2]; rfl
/-- Of what is told all is right. -/
theorem nextL_right {b : UInt8} {l : List UInt8} (hok : (nextL (b :: l)).ok = true) (hk : (nextL (b :: l)).kind > 0) :
    rightT ⟨(nextL (b :: l)).kind, B (nextL (b :: l)).text, (nextL (b :: l)).n⟩ = true ∧ (nextL (b :: l)).text.length ≤ (b :: l).length := by
  rw [nextL_cons] at hok hk ⊢
  by_cases h1 : b.toNat = 35
  · rw [if_pos h1] at hk; exact absurd hk (by simp)
  · rw [if_neg h1] at hok hk ⊢
    by_cases h2 : b.toNat = 32 ∨ b.toNat = 10
    · rw [if_pos h2] at hk; exact absurd hk (by simp)
    · rw [if_neg h2] at hok hk ⊢
      by_cases h3 : isDig b = true
      · rw [if_pos h3] at hok hk ⊢
        refine ⟨?_, tw_le _ _⟩
        simp only at hok
        unfold rightT
        simp only [B_list]
        rw [if_neg (by decide), if_pos trivial, hok]
        have h0 : 0 ≤ (numOf (B ((b :: l).takeWhile isDig))).1 := by
          unfold numOf
          rw [B_list, List.takeWhile_cons, if_pos h3]
          have hb2 : 48 ≤ b.toNat ∧ b.toNat ≤ 57 := by simpa [isDig] using h3
          have hq := Lib.parseIntB_plain 32 b (l.takeWhile isDig) (by omega) (by omega)
          cases hp : Lib.parseIntB 32 (b :: l.takeWhile isDig) with
          | ok v =>
            simp only
            rw [hp] at hq
            unfold Lib.signlessC at hq
            split at hq
            · cases hq
            · cases hq
            · split at hq
              · cases hq
              · injection hq with hq; omega
          | range =>
            simp only [Lib.intSat]
            split
            · rename_i e
              simp at e
              omega
            · decide
          | _ => simp
        simp [h0]
      · rw [if_neg h3] at hok hk ⊢
        by_cases h4 : isWord b = true
        · rw [if_pos h4] at hok hk ⊢
          refine ⟨?_, by rw [wordTok_text]; exact tw_le _ _⟩
          unfold rightT
          simp only [B_list, wordTok_text]
          have : (wordTok ((b :: l).takeWhile isWord)).kind = 1 ∨ (wordTok ((b :: l).takeWhile isWord)).kind = 3 := by
            unfold wordTok; split
            · exact .inr rfl
            · exact .inl rfl
          rw [if_pos this, hok, wordTok_n]; simp
        · rw [if_neg h4] at hok hk ⊢
          cases hm : markL (b :: l) with
          | none => rw [hm] at hok; cases hok
          | some m =>
            obtain ⟨hmem, hpre⟩ := markL_mem hm
            refine ⟨?_, (List.isPrefixOf_iff_prefix.1 hpre).length_le⟩
            unfold rightT
            simp only [B_list]
            rw [if_neg (by decide), if_neg (by decide), if_pos trivial]
            have hself : (markWords.map (·.data.toList)).all (fun m => markL m == some m) = true := by decide +kernel
            have := List.all_eq_true.1 hself m hmem
            simp at this
            simp [this]
theorem tokL_all (n : Nat) : ∀ (l : List UInt8) (ts : List TokT), l.length ≤ n → tokL l = some ts → ts.all rightT = true ∧ (∀ t ∈ ts, t.f1.size ≤ l.length) ∧ ts.length ≤ l.length := by
  induction n with
  | zero =>
    intro l ts hl h
    have : l = [] := List.length_eq_zero_iff.1 (by omega)
    subst this
    rw [tokL_nil] at h
    injection h with h
    subst h; simp
  | succ n ih =>
    intro l ts hl h
    cases l with
    | nil => exact ih [] ts (by simp) h
    | cons b l =>
      rw [tokL_cons] at h
      by_cases hok : (nextL (b :: l)).ok = true
      · have hlong := nextL_long hok
        rw [if_pos hok] at h
        by_cases hk : (nextL (b :: l)).kind > 0
        · rw [if_pos hk, Option.map_eq_some_iff] at h
          obtain ⟨a, ha, rfl⟩ := h
          obtain ⟨i1, i2, i3⟩ := ih _ a (by rw [List.length_drop]; omega) ha
          obtain ⟨r1, r2⟩ := nextL_right hok hk
          rw [List.length_drop] at i2 i3
          refine ⟨by rw [List.all_cons, r1, i1]; rfl, fun t ht => ?_, by rw [List.length_cons]; omega⟩
          rcases List.mem_cons.1 ht with rfl | ht
          · simp only [B_size]; exact r2
          · exact Nat.le_trans (i2 t ht) (Nat.sub_le _ _)
        · rw [if_neg hk] at h
          obtain ⟨i1, i2, i3⟩ := ih _ ts (by rw [List.length_drop]; omega) h
          rw [List.length_drop] at i2 i3
          exact ⟨i1, fun t ht => Nat.le_trans (i2 t ht) (Nat.sub_le _ _), by omega⟩
      · rw [if_neg hok] at h; cases h
end Go.Proofs.YtchekgnacodolaaGreatDoor.X

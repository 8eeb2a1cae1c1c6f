-- Joined by our own program (wip/tools/prune.py) out of the seat's texts, less what this claim doesn't name.
import Derived.Lib.ItoaNum
import Derived.Lib.ItoaMem
import Derived.Test.YtchekgnacodolaaGreatDoorJ6
import Derived.Test.YtchekgnacodolaaGreatDoorJ7
import Derived.Test.YtchekgnacodolaaGreatDoorJ10
import Derived.Test.YtchekgnacodolaaGreatDoorJ13
section
namespace Go.Proofs.YtchekgnacodolaaGreatDoor.X
open Go.RowKit Go.Proofs.YtchekgnacodolaaGreatDoorW.PrintWords
set_option linter.unusedSimpArgs false
set_option linter.unusedVariables false
def valD (acc : Nat) : List UInt8 → Nat
  | [] => acc
  | c :: r => valD (acc * 10 + (c.toNat - 48)) r
theorem valD_snoc (l : List UInt8) : ∀ (acc : Nat) (c : UInt8), valD acc (l ++ [c]) = valD acc l * 10 + (c.toNat - 48) := by
  induction l with
  | nil => intro acc c; rfl
  | cons b l ih => intro acc c; exact ih _ c
theorem valD_le (l : List UInt8) : ∀ acc, acc ≤ valD acc l := by
  induction l with
  | nil => intro acc; exact Nat.le_refl _
  | cons b l ih => intro acc; exact Nat.le_trans (by omega) (ih _)
theorem dec_val (n : Nat) : valD 0 (Lib.decDigits n) = n := by
  induction n using Nat.strongRecOn with
  | ind n ih =>
    rw [Lib.decDigits]
    split
    · rename_i h
      show (0 * 10 + ((UInt8.ofNat (48 + n)).toNat - 48)) = n
      rw [UInt8.toNat_ofNat']; omega
    · rename_i h
      rw [valD_snoc, ih (n / 10) (by omega), UInt8.toNat_ofNat']; omega
theorem dec_F (v : Nat) (h : v < 10000000000) : Lib.decDigits v = decF 10 v := (decF_eq 10 v (by omega) (by omega)).symm
theorem decF_len : ∀ k n, (decF k n).length ≤ k
  | 0, _ => by simp [decF]
  | k + 1, n => by
    unfold decF
    split
    · simp
    · have := decF_len k (n / 10)
      simp; omega
theorem uintM_ok (M : Nat) (hM : M ≤ 4294967295) : ∀ (l : List UInt8) (acc : Nat), l.all isDig = true → valD acc l ≤ M → Lib.parseUintM M acc l = .ok (valD acc l)
  | [], _, _, _ => rfl
  | c :: l, acc, h, hv => by
    simp only [List.all_cons, Bool.and_eq_true] at h
    have hc : 48 ≤ c.toNat ∧ c.toNat ≤ 57 := by simpa [isDig] using h.1
    have hle := valD_le l (acc * 10 + (c.toNat - 48))
    have hv' : valD (acc * 10 + (c.toNat - 48)) l ≤ M := hv
    rw [Lib.parseUintM, if_pos hc, if_neg (by omega), if_neg (by omega), uintM_ok M hM l _ h.2 hv']; rfl
theorem parse_dec (v : Nat) (h : v < 2147483648) : Lib.parseIntB 32 (Lib.decDigits v) = .ok (v : Int) := by
  have hF := dec_F v (by omega)
  have hd : (Lib.decDigits v).all isDig = true := by rw [hF]; exact decF_dig _ _
  have hne : Lib.decDigits v ≠ [] := by rw [hF]; exact decF_ne _ _
  have hv := dec_val v
  cases hl : Lib.decDigits v with
  | nil => exact absurd hl hne
  | cons c r =>
    rw [hl] at hd hv
    have hd' := hd
    simp only [List.all_cons, Bool.and_eq_true] at hd'
    have hc : 48 ≤ c.toNat ∧ c.toNat ≤ 57 := by simpa [isDig] using hd'.1
    unfold Lib.parseIntB
    simp only
    rw [if_neg (by omega)]
    unfold Lib.parseUintB
    rw [if_neg (by simp), uintM_ok _ (by decide) _ _ hd (by rw [hv]; exact Nat.le_trans (Nat.le_of_lt h) (by decide)), hv]
    have h31 : (2 : Nat) ^ (32 - 1) = 2147483648 := by decide
    simp only [h31]
    rw [if_neg (by omega), if_neg (by omega), if_neg (by omega)]
theorem num_dec (v : Nat) (h : v < 2147483648) : numOf (B (Lib.decDigits v)) = ((v : Int), true) := by
  unfold numOf
  rw [B_list, parse_dec v h]
  have : itoaF (v : Int) = Lib.decDigits v := by
    unfold itoaF
    rw [if_neg (by omega), decF_eq 20 _ (by omega) (by omega)]; rfl
  simp [this]
theorem num_iff (d : List UInt8) : ((numOf (B d)).2 = true ∧ 0 ≤ (numOf (B d)).1) ↔ ∃ v : Nat, v < 2147483648 ∧ d = Lib.decDigits v := by
  constructor
  · rintro ⟨h, h0⟩
    unfold numOf at h h0
    cases hp : Lib.parseIntB 32 (B d).data.toList with
    | ok v =>
      rw [hp] at h h0
      simp only at h h0
      have e : itoaF v = d := by simpa [B_list] using h
      have hb := Lib.parseIntB_bounds hp
      have h31 : ((2 : Nat) ^ (32 - 1) : Nat) = 2147483648 := by decide
      rw [h31] at hb
      unfold itoaF at e
      rw [if_neg (by omega), decF_eq 20 _ (by omega) (by omega)] at e
      exact ⟨v.toNat, by omega, e.symm⟩
    | _ => rw [hp] at h; cases h
  · rintro ⟨v, h, rfl⟩
    rw [num_dec v h]
    exact ⟨rfl, by simp⟩
end Go.Proofs.YtchekgnacodolaaGreatDoor.X
end
section
namespace Go.Proofs.YtchekgnacodolaaGreatDoor.X
set_option linter.unusedSimpArgs false
set_option linter.unusedVariables false
def wordB (nm : ByteArray) : Bool := nameL nm.data.toList && !isKey nm
def kidsOf : Int → Int
  | 1 => 0 | 2 => 0 | 3 => 1 | 4 => 2 | 5 => 2 | 6 => 3 | 7 => 2 | 8 => 1 | 9 => 2 | 10 => 1 | 11 => 2 | 12 => 2 | 13 => 2
  | _ => -1
def binderK (k : Int) : Bool := k == 3 || (k == 5 || k == 9)
def nodeB (k : Int) (nm : ByteArray) (n : Int) (c : Int) : Bool :=
  decide (1 ≤ k) && decide (k < 14) && decide (c = kidsOf k) && decide (0 ≤ n) && decide (n < 2147483648) && (decide (k = 1) || decide (n = 0)) &&
    (if binderK k = true ∨ k = 2 then wordB nm else if k = 12 then opWords.any (fun o => o.data.toList == nm.data.toList) else nm.data.toList == [])
mutual
def nodesT : Tm → Bool
  | ⟨k, nm, n, kids⟩ => nodeB k nm n kids.length && nodessT kids
def nodessT : List Tm → Bool
  | [] => true
  | t :: r => nodesT t && nodessT r
end
def rightTm (t : Tm) : Bool := decide (depthT t ≤ 200) && decide (sizeT t ≤ 10000) && nodesT t
theorem nodessT_mem : ∀ {l : List Tm}, nodessT l = true → ∀ t ∈ l, nodesT t = true
  | [], _, _, h => by cases h
  | x :: r, h, t, hm => by
    rw [nodessT, Bool.and_eq_true] at h
    rcases List.mem_cons.1 hm with rfl | h1
    · exact h.1
    · exact nodessT_mem h.2 t h1
def keyTok (w : ByteArray) : TokT := ⟨3, w, 0⟩
def markTok (m : ByteArray) : TokT := ⟨4, m, 0⟩
def nameTok (n : ByteArray) : TokT := ⟨1, n, 0⟩
def numTok (n : Int) : TokT := ⟨2, B (itoaF n), n⟩
def withinT (k : Int) (ts : List TokT) : List TokT := if k = 1 ∨ k = 2 then ts else markTok mOpen :: ts ++ [markTok mClose]
def layT (k : Int) (nm : ByteArray) (n : Int) (w : List (List TokT)) : List TokT :=
  let w0 := w.getD 0 []; let w1 := w.getD 1 []; let w2 := w.getD 2 []
  if k = 1 then [numTok n]
  else if k = 2 then [nameTok nm]
  else if k = 3 then keyTok kFun :: nameTok nm :: markTok mArrow :: w0
  else if k = 4 then w0 ++ w1
  else if k = 5 then keyTok kLet :: nameTok nm :: markTok mEq :: (w0 ++ keyTok kIn :: w1)
  else if k = 6 then keyTok kIf :: (w0 ++ keyTok kThen :: (w1 ++ keyTok kElse :: w2))
  else if k = 7 then keyTok kWhile :: (w0 ++ keyTok kDo :: w1)
  else if k = 8 then keyTok kRaise :: w0
  else if k = 9 then keyTok kTry :: (w0 ++ keyTok kWith :: nameTok nm :: markTok mArrow :: w1)
  else if k = 10 then markTok mGet :: w0
  else if k = 11 then w0 ++ markTok mSet :: w1
  else if k = 12 then w0 ++ markTok nm :: w1
  else w0 ++ markTok mSeq :: w1
mutual
def toksT : Tm → List TokT
  | ⟨k, nm, n, kids⟩ => layT k nm n (withinsT kids)
def withinsT : List Tm → List (List TokT)
  | [] => []
  | t :: r => withinT t.f0 (toksT t) :: withinsT r
end
def inT (t : Tm) : List TokT := withinT t.f0 (toksT t)
def Ev (f : Nat → PR) (r : Option (Tm × List TokT)) : Prop := ∃ K, ∀ k, K ≤ k → f k = some r
theorem Ev.step {m : Mode} {s : List TokT} {r : Option (Tm × List TokT)} (h : Ev (fun k => run (k + 1) m s) r) : Ev (fun k => run k m s) r := by
  obtain ⟨K, h⟩ := h
  refine ⟨K + 1, fun k hk => ?_⟩
  obtain ⟨j, rfl⟩ : ∃ j, k = j + 1 := ⟨k - 1, by omega⟩
  exact h j (by omega)
theorem Ev.now (r : Option (Tm × List TokT)) : Ev (fun _ => some r) r := ⟨0, fun _ _ => rfl⟩
theorem Ev.then_ {f : Nat → PR} {g : Nat → Tm → List TokT → PR} {t : Tm} {s : List TokT} {r : Option (Tm × List TokT)} (h : Ev f (some (t, s))) (hg : Ev (fun k => g k t s) r) : Ev (fun k => (f k).then_ (g k)) r := by
  obtain ⟨K, h⟩ := h
  obtain ⟨K', h'⟩ := hg
  refine ⟨max K K', fun k hk => ?_⟩
  simp only [h k (by omega)]
  exact h' k (by omega)
theorem Ev.fail {f : Nat → PR} {g : Nat → Tm → List TokT → PR} (h : Ev f none) : Ev (fun k => (f k).then_ (g k)) none := by
  obtain ⟨K, h⟩ := h
  refine ⟨K, fun k hk => ?_⟩
  simp only [h k hk]; rfl
theorem Ev.key {f : Nat → PR} {g : Nat → Tm → List TokT → PR} {m : ByteArray} {t : Tm} {s : List TokT} {r : Option (Tm × List TokT)} (h : Ev f (some (t, s))) (hm : isL s m = true) (hg : Ev (fun k => g k t s.tail) r) : Ev (fun k => (f k).key m (g k)) r :=
  h.then_ (by simp only [if_pos hm]; exact hg)
theorem Ev.name {g : Nat → ByteArray → List TokT → PR} {m : ByteArray} {s : List TokT} {nm : ByteArray} {q : List TokT} {r : Option (Tm × List TokT)} (hb : boundL s m = some (nm, q)) (hg : Ev (fun k => g k nm q) r) : Ev (fun k => PR.name (boundL s m) (g k)) r := by
  rw [hb]; exact hg
theorem Ev.pos {c : Prop} [Decidable c] {f g : Nat → PR} {r : Option (Tm × List TokT)} (hc : c) (h : Ev f r) : Ev (fun k => if c then f k else g k) r := by simp only [if_pos hc]; exact h
theorem Ev.neg {c : Prop} [Decidable c] {f g : Nat → PR} {r : Option (Tm × List TokT)} (hc : ¬ c) (h : Ev g r) : Ev (fun k => if c then f k else g k) r := by simp only [if_neg hc]; exact h
theorem Ev.parse {s : List TokT} {r : Option (Tm × List TokT)} (h : Ev (fun k => run k .all s) r) : parseL s = r := by
  obtain ⟨K, h⟩ := h
  exact parseL_of (h K (Nat.le_refl _))
theorem isL_cons (x : TokT) (r : List TokT) (m : ByteArray) : isL (x :: r) m = (decide (3 ≤ x.f0) && (x.f1.data.toList == m.data.toList)) := rfl
theorem isL_key (w : ByteArray) (r : List TokT) (m : ByteArray) : isL (keyTok w :: r) m = (w.data.toList == m.data.toList) := by simp [isL_cons, keyTok]
theorem isL_mark (w : ByteArray) (r : List TokT) (m : ByteArray) : isL (markTok w :: r) m = (w.data.toList == m.data.toList) := by simp [isL_cons, markTok]
theorem isL_low {x : TokT} (h : x.f0 = 1 ∨ x.f0 = 2) (r : List TokT) (m : ByteArray) : isL (x :: r) m = false := by
  rw [isL_cons, decide_eq_false (by omega), Bool.false_and]
structure Stops (s : List TokT) : Prop where
  b : beginsL s = false
  set : isL s mSet = false
  ops : opWords.find? (isL s) = none
inductive HeadT : List TokT → Prop
  | low (x : TokT) (r : List TokT) (h : x.f0 = 1 ∨ x.f0 = 2) : HeadT (x :: r)
  | mark (r : List TokT) : HeadT (markTok mOpen :: r)
  | get (r : List TokT) : HeadT (markTok mGet :: r)
theorem HeadT.append {w : List TokT} (h : HeadT w) (s : List TokT) : HeadT (w ++ s) := by
  cases h with
  | low x r h => exact .low x (r ++ s) h
  | mark r => exact .mark (r ++ s)
  | get r => exact .get (r ++ s)
def keyHeads : List ByteArray := [kFun, kLet, kIf, kWhile, kRaise, kTry]
theorem HeadT.nokey {w : List TokT} (h : HeadT w) {m : ByteArray} (hm : m ∈ keyHeads) : ¬ isL w m = true := by
  have key : keyHeads.all (fun m => !(mOpen.data.toList == m.data.toList) && !(mGet.data.toList == m.data.toList)) = true := by decide +kernel
  have := List.all_eq_true.1 key m hm
  simp only [Bool.and_eq_true, Bool.not_eq_true'] at this
  cases h with
  | low x r h => rw [isL_low h]; decide
  | mark r => rw [isL_mark, this.1]; decide
  | get r => rw [isL_mark, this.2]; decide
abbrev Reads_ (m : Mode) (s : List TokT) (r : Option (Tm × List TokT)) : Prop := Ev (fun k => run k m s) r
theorem parts_of {w : List TokT} {t : Tm} {s : List TokT} (h : Reads_ .part w (some (t, s))) (hs : beginsL s = false) : Reads_ .parts w (some (t, s)) :=
  Ev.step (Ev.then_ h (Ev.step (Ev.neg (by rw [hs]; decide) (Ev.now _))))
theorem plain_of {w : List TokT} {t : Tm} {s : List TokT} (h : Reads_ .parts w (some (t, s))) (hs : Stops s) : Reads_ .plain w (some (t, s)) :=
  Ev.step (Ev.then_ h (Ev.neg (by rw [hs.set]; decide) (by rw [hs.ops]; exact Ev.now _)))
theorem one_of {w : List TokT} {r : Option (Tm × List TokT)} (hw : HeadT w) (h : Reads_ .plain w r) : Reads_ .one w r :=
  Ev.step (Ev.neg (hw.nokey (by simp [keyHeads])) (Ev.neg (hw.nokey (by simp [keyHeads])) (Ev.neg (hw.nokey (by simp [keyHeads])) (Ev.neg (hw.nokey (by simp [keyHeads])) (Ev.neg (hw.nokey (by simp [keyHeads])) (Ev.neg (hw.nokey (by simp [keyHeads])) h))))))
theorem one_part {w : List TokT} {t : Tm} {s : List TokT} (hw : HeadT w) (h : Reads_ .part w (some (t, s))) (hs : Stops s) : Reads_ .one w (some (t, s)) :=
  one_of hw (plain_of (parts_of h hs.b) hs)
theorem begins_key (w : ByteArray) (r : List TokT) (h1 : (w.data.toList == [40]) = false) (h2 : (w.data.toList == [33]) = false) : beginsL (keyTok w :: r) = false := by
  unfold beginsL
  rw [isL_key, isL_key, show (⟨#[40]⟩ : ByteArray).data.toList = [40] from rfl, show (⟨#[33]⟩ : ByteArray).data.toList = [33] from rfl, h1, h2]
  simp [peekL, keyTok]
theorem begins_mark (w : ByteArray) (r : List TokT) (h1 : (w.data.toList == [40]) = false) (h2 : (w.data.toList == [33]) = false) : beginsL (markTok w :: r) = false := by
  unfold beginsL
  rw [isL_mark, isL_mark, show (⟨#[40]⟩ : ByteArray).data.toList = [40] from rfl, show (⟨#[33]⟩ : ByteArray).data.toList = [33] from rfl, h1, h2]
  simp [peekL, markTok]
theorem find_none {s : List TokT} (h : ∀ o ∈ opWords, isL s o = false) : opWords.find? (isL s) = none := List.find?_eq_none.2 fun o ho => by rw [h o ho]; decide
theorem Stops.nil : Stops [] := ⟨beginsL_nil, isL_nil _, find_none fun o _ => isL_nil o⟩
theorem stops_of_list (ws : List ByteArray) (h : ws.all (fun w => !(w.data.toList == [40]) && !(w.data.toList == [33]) && !(w.data.toList == mSet.data.toList) && opWords.all fun o => !(w.data.toList == o.data.toList)) = true) (w : ByteArray) (hw : w ∈ ws) :
    (∀ r, Stops (keyTok w :: r)) ∧ ∀ r, Stops (markTok w :: r) := by
  have := List.all_eq_true.1 h w hw
  simp only [Bool.and_eq_true, Bool.not_eq_true', List.all_eq_true] at this
  obtain ⟨⟨⟨h1, h2⟩, h3⟩, h4⟩ := this
  exact ⟨fun r => ⟨begins_key w r h1 h2, by rw [isL_key, h3], find_none fun o ho => by rw [isL_key, h4 o ho]⟩, fun r => ⟨begins_mark w r h1 h2, by rw [isL_mark, h3], find_none fun o ho => by rw [isL_mark, h4 o ho]⟩⟩
def stopWords : List ByteArray := [kIn, kThen, kElse, kDo, kWith, mClose, mSeq]
theorem stops_mark {w : ByteArray} (hw : w ∈ stopWords) (r : List TokT) : Stops (markTok w :: r) := (stops_of_list stopWords (by decide +kernel) w hw).2 r
theorem part_paren {w : List TokT} {t : Tm} {s : List TokT} (h : Reads_ .all w (some (t, s))) (hs : isL s mClose = true) : Reads_ .part (markTok mOpen :: w) (some (t, s.tail)) :=
  Ev.step (Ev.neg (by rw [isL_mark]; decide) (Ev.pos (by rw [isL_mark]; decide) (Ev.key h hs (Ev.now _))))
theorem kids_cases {l : List Tm} {k : Int} (h : (l.length : Int) = kidsOf k) (hk : 1 ≤ k ∧ k < 14) :
    (k = 1 ∧ l = []) ∨ (k = 2 ∧ l = []) ∨ ((k = 3 ∨ k = 8 ∨ k = 10) ∧ ∃ a, l = [a]) ∨ ((k = 4 ∨ k = 5 ∨ k = 7 ∨ k = 9 ∨ k = 11 ∨ k = 12 ∨ k = 13) ∧ ∃ a b, l = [a, b]) ∨ (k = 6 ∧ ∃ a b c, l = [a, b, c]) := by
  have h0 : ∀ (l : List Tm), (l.length : Int) = 0 → l = [] := fun l h => List.length_eq_zero_iff.1 (by omega)
  have h1 : ∀ (l : List Tm), (l.length : Int) = 1 → ∃ a, l = [a] := fun l h => List.length_eq_one_iff.1 (by omega)
  have h2 : ∀ (l : List Tm), (l.length : Int) = 2 → ∃ a b, l = [a, b] := fun l h => by
    match l, h with
    | [a, b], _ => exact ⟨a, b, rfl⟩
    | [], h => simp at h
    | [_], h => simp at h
    | _ :: _ :: _ :: _, h => simp only [List.length_cons] at h; omega
  have h3 : ∀ (l : List Tm), (l.length : Int) = 3 → ∃ a b c, l = [a, b, c] := fun l h => by
    match l, h with
    | [a, b, c], _ => exact ⟨a, b, c, rfl⟩
    | [], h => simp at h
    | [_], h => simp at h
    | [_, _], h => simp at h
    | _ :: _ :: _ :: _ :: _, h => simp only [List.length_cons] at h; omega
  have hc : k = 1 ∨ k = 2 ∨ k = 3 ∨ k = 4 ∨ k = 5 ∨ k = 6 ∨ k = 7 ∨ k = 8 ∨ k = 9 ∨ k = 10 ∨ k = 11 ∨ k = 12 ∨ k = 13 := by omega
  rcases hc with rfl | rfl | rfl | rfl | rfl | rfl | rfl | rfl | rfl | rfl | rfl | rfl | rfl <;> simp only [kidsOf] at h
  · exact .inl ⟨rfl, h0 l h⟩
  · exact .inr (.inl ⟨rfl, h0 l h⟩)
  · exact .inr (.inr (.inl ⟨.inl rfl, h1 l h⟩))
  · exact .inr (.inr (.inr (.inl ⟨.inl rfl, h2 l h⟩)))
  · exact .inr (.inr (.inr (.inl ⟨.inr (.inl rfl), h2 l h⟩)))
  · exact .inr (.inr (.inr (.inr ⟨rfl, h3 l h⟩)))
  · exact .inr (.inr (.inr (.inl ⟨.inr (.inr (.inl rfl)), h2 l h⟩)))
  · exact .inr (.inr (.inl ⟨.inr (.inl rfl), h1 l h⟩))
  · exact .inr (.inr (.inr (.inl ⟨.inr (.inr (.inr (.inl rfl))), h2 l h⟩)))
  · exact .inr (.inr (.inl ⟨.inr (.inr rfl), h1 l h⟩))
  · exact .inr (.inr (.inr (.inl ⟨.inr (.inr (.inr (.inr (.inl rfl)))), h2 l h⟩)))
  · exact .inr (.inr (.inr (.inl ⟨.inr (.inr (.inr (.inr (.inr (.inl rfl))))), h2 l h⟩)))
  · exact .inr (.inr (.inr (.inl ⟨.inr (.inr (.inr (.inr (.inr (.inr rfl))))), h2 l h⟩)))
structure NodeR (k : Int) (nm : ByteArray) (n : Int) (c : Int) : Prop where
  k1 : 1 ≤ k
  k2 : k < 14
  kids : c = kidsOf k
  n0 : 0 ≤ n
  n1 : n < 2147483648
  nz : k = 1 ∨ n = 0
  nm : if binderK k = true ∨ k = 2 then wordB nm = true else if k = 12 then nm ∈ opWords else nm = noName
theorem ba_eq {a b : ByteArray} (h : a.data.toList = b.data.toList) : a = b := by rw [← B_of a, ← B_of b, h]
theorem nodeB_iff (k : Int) (nm : ByteArray) (n : Int) (c : Int) : nodeB k nm n c = true ↔ NodeR k nm n c := by
  unfold nodeB
  simp only [Bool.and_eq_true, Bool.or_eq_true, decide_eq_true_eq]
  have hn : (if binderK k = true ∨ k = 2 then wordB nm else if k = 12 then opWords.any (fun o => o.data.toList == nm.data.toList) else nm.data.toList == []) = true ↔ (if binderK k = true ∨ k = 2 then wordB nm = true else if k = 12 then nm ∈ opWords else nm = noName) := by
    split
    · exact Iff.rfl
    · split
      · rw [List.any_eq_true]
        constructor
        · rintro ⟨o, ho, e⟩; rw [← ba_eq (eq_of_beq e)]; exact ho
        · exact fun h => ⟨nm, h, beq_self_eq_true _⟩
      · rw [beq_iff_eq]
        exact ⟨fun h => ba_eq h, fun h => by rw [h]⟩
  rw [hn]
  exact ⟨fun ⟨⟨⟨⟨⟨⟨a, b⟩, c⟩, d⟩, e⟩, f⟩, g⟩ => ⟨a, b, c, d, e, f, g⟩, fun ⟨a, b, c, d, e, f, g⟩ => ⟨⟨⟨⟨⟨⟨a, b⟩, c⟩, d⟩, e⟩, f⟩, g⟩⟩
end Go.Proofs.YtchekgnacodolaaGreatDoor.X
end
section
namespace Go.Proofs.YtchekgnacodolaaGreatDoor.X
open Go.RowKit Go.Proofs.YtchekgnacodolaaGreatDoorW.PrintWords
set_option linter.unusedSimpArgs false
set_option linter.unusedVariables false
abbrev Dl := S87
abbrev Df := S89
structure Prg where
  f0 : List Dl
  f1 : List Dl
  f2 : List Df
  f3 : Tm
def zPrg : Prg := ⟨[], [], [], zTm⟩
def kInput : ByteArray := ⟨#[105, 110, 112, 117, 116]⟩
def kCell : ByteArray := ⟨#[99, 101, 108, 108]⟩
def kDef : ByteArray := ⟨#[100, 101, 102]⟩
def kName : ByteArray := ⟨#[110, 97, 109, 101]⟩
def kNumber : ByteArray := ⟨#[110, 117, 109, 98, 101, 114]⟩
def mColon : ByteArray := ⟨#[58]⟩
def mEqual : ByteArray := ⟨#[61]⟩
def mEnd : ByteArray := ⟨#[46]⟩
def isEnd (t : TokT) : Bool := t.f0 == 4 && (t.f1.data.toList == mEnd.data.toList && t.f2 == 0)
def piecesL : List TokT → List (List TokT)
  | [] => [[]]
  | t :: r => if isEnd t = true then [] :: piecesL r else (t :: (piecesL r).headD []) :: (piecesL r).tail
def okTok (t : TokT) (want : ByteArray) : Bool :=
  if want.data.toList = kName.data.toList then t.f0 == 1 else if want.data.toList = kNumber.data.toList then t.f0 == 2 else decide (3 ≤ t.f0) && (t.f1.data.toList == want.data.toList)
def formsL : List TokT → List ByteArray → Bool
  | _, [] => true
  | [], _ :: _ => false
  | t :: l, w :: f => okTok t w && formsL l f
abbrev fInput : List ByteArray := [kInput, kName, mColon, kName]
abbrev fCell : List ByteArray := [kCell, kName, mColon, kName, mEqual, kNumber]
abbrev fDef : List ByteArray := [kDef, kName, mEqual]
def tokAt (l : List TokT) (i : Nat) : TokT := l.getD i ⟨0, ⟨#[]⟩, 0⟩
def inputP (p : Prg) (l : List TokT) : Prg × Int :=
  if formsL l fInput = true ∧ l.length = 4 ∧ p.f1.length + p.f2.length = 0 then ({ p with f0 := p.f0 ++ [⟨(tokAt l 1).f1, (tokAt l 3).f1, 0⟩] }, 0) else (p, 2)
def cellP (p : Prg) (l : List TokT) : Prg × Int :=
  if formsL l fCell = true ∧ l.length = 6 ∧ p.f2.length = 0 then ({ p with f1 := p.f1 ++ [⟨(tokAt l 1).f1, (tokAt l 3).f1, (tokAt l 5).f2⟩] }, 0) else (p, 2)
def defP (p : Prg) (l : List TokT) : Prg × Int :=
  if formsL l fDef = true then
    if (toksR (l.drop 3)).2 ≠ 0 then (p, (toksR (l.drop 3)).2)
    else if (toksR (l.drop 3)).1.f0 ≠ 3 then (p, 2)
    else ({ p with f2 := p.f2 ++ [⟨(tokAt l 1).f1, (toksR (l.drop 3)).1⟩] }, 0)
  else (p, 2)
def doP (p : Prg) (l : List TokT) : Prg × Int :=
  if (tokAt l 0).f1.data.toList = kInput.data.toList then inputP p l
  else if (tokAt l 0).f1.data.toList = kCell.data.toList then cellP p l
  else if (tokAt l 0).f1.data.toList = kDef.data.toList then defP p l
  else (p, 2)
def readP (p : Prg) (l : List TokT) : Prg × Int :=
  if l = [] then (p, 2)
  else if (doP p l).2 ≠ 0 then doP p l
  else if 32 < max (max (doP p l).1.f0.length (doP p l).1.f1.length) (doP p l).1.f2.length then ((doP p l).1, 1)
  else doP p l
def readsP : Prg → List (List TokT) → Prg × Int
  | p, [] => (p, 0)
  | p, l :: r => if (readP p l).2 ≠ 0 then readP p l else readsP (readP p l).1 r
def progR (s : List UInt8) : Prg × Int :=
  if (lexR s).2 ≠ 0 then (zPrg, (lexR s).2)
  else if 97 < (piecesL (lexR s).1).length then (zPrg, 1)
  else if (readsP zPrg (piecesL (lexR s).1).dropLast).2 ≠ 0 then (zPrg, (readsP zPrg (piecesL (lexR s).1).dropLast).2)
  else if (toksR ((piecesL (lexR s).1).getLastD [])).2 ≠ 0 then (zPrg, (toksR ((piecesL (lexR s).1).getLastD [])).2)
  else ({ (readsP zPrg (piecesL (lexR s).1).dropLast).1 with f3 := (toksR ((piecesL (lexR s).1).getLastD [])).1 }, 0)
def wrongD (d : Dl) : Bool := !wordB d.f0 || (!wordB d.f1 || (decide (d.f2 < 0) || decide (2147483648 ≤ d.f2)))
def wrongF (d : Df) : Bool := !wordB d.f0 || (!rightTm d.f1 || !(d.f1.f0 == 3))
def fitsP (p : Prg) : Bool :=
  !(p.f0.any wrongD) && (!(p.f0.any fun d => !(d.f2 == 0)) && (!(p.f1.any wrongD) && (!(p.f2.any wrongF) && (decide (max (max p.f0.length p.f1.length) p.f2.length ≤ 32) && rightTm p.f3))))
def lineI (d : Dl) : List UInt8 := [105, 110, 112, 117, 116, 32] ++ d.f0.data.toList ++ [32, 58, 32] ++ d.f1.data.toList ++ [32, 46, 10]
def lineC (d : Dl) : List UInt8 := [99, 101, 108, 108, 32] ++ d.f0.data.toList ++ [32, 58, 32] ++ d.f1.data.toList ++ [32, 61, 32] ++ itoaF d.f2 ++ [32, 46, 10]
def lineD (d : Df) : List UInt8 := [100, 101, 102, 32] ++ d.f0.data.toList ++ [32, 61, 32] ++ printL (toksT d.f1) ++ [32, 46, 10]
def linesP (p : Prg) : List UInt8 := (p.f0.map lineI).flatten ++ (p.f1.map lineC).flatten ++ (p.f2.map lineD).flatten ++ printL (toksT p.f3) ++ [10]
def printP (p : Prg) : List UInt8 := if fitsP p = true then if (linesP p).length ≤ 65536 then linesP p else [] else []
def sameF (a b : Df) : Bool := a.f0.data.toList == b.f0.data.toList && sameTm a.f1 b.f1
def samesF : List Df → List Df → Bool
  | [], [] => true
  | a :: l, b :: m => sameF a b && samesF l m
  | _, _ => false
def sameD (a b : Dl) : Bool := a.f0.data.toList == b.f0.data.toList && (a.f1.data.toList == b.f1.data.toList && a.f2 == b.f2)
def samesD : List Dl → List Dl → Bool
  | [], [] => true
  | a :: l, b :: m => sameD a b && samesD l m
  | _, _ => false
def samePrg (a b : Prg) : Bool := samesD a.f0 b.f0 && (samesD a.f1 b.f1 && (samesF a.f2 b.f2 && sameTm a.f3 b.f3))
def sizesF : List Df → Nat
  | [] => 0
  | d :: l => sizeT d.f1 + sizesF l
def sizeP (p : Prg) : Nat := sizeT p.f3 + sizesF p.f2
end Go.Proofs.YtchekgnacodolaaGreatDoor.X
end
section
namespace Go.Proofs.YtchekgnacodolaaGreatDoor.X
open Go.RowKit Go.Proofs.YtchekgnacodolaaGreatDoorW.PrintWords
set_option linter.unusedSimpArgs false
set_option linter.unusedVariables false
def p6 : Prg := ⟨[⟨⟨#[120]⟩, ⟨#[76, 111]⟩, 0⟩], [⟨⟨#[99]⟩, ⟨#[72, 105]⟩, 5⟩], [⟨⟨#[102]⟩, ⟨3, ⟨#[121]⟩, 0, [⟨2, ⟨#[121]⟩, 0, []⟩]⟩⟩], ⟨11, ⟨#[]⟩, 0, [⟨2, ⟨#[99]⟩, 0, []⟩, ⟨4, ⟨#[]⟩, 0, [⟨2, ⟨#[102]⟩, 0, []⟩, ⟨2, ⟨#[120]⟩, 0, []⟩]⟩]⟩⟩
theorem e61 : progR [105, 110, 112, 117, 116, 32, 120, 32, 58, 32, 76, 111, 32, 46, 32, 99, 101, 108, 108, 32, 99, 32, 58, 32, 72, 105, 32, 61, 32, 53, 32, 46, 32, 100, 101, 102, 32, 102, 32, 61, 32, 102, 117, 110, 32, 121, 32, 61, 62, 32, 121, 32, 46, 32, 99, 32, 58, 61, 32, 102, 32, 120] = (p6, 0) := by kernel_rfl
theorem e62 : progR [99, 101, 108, 108, 32, 99, 32, 58, 32, 72, 105, 32, 61, 32, 53, 32, 46, 32, 105, 110, 112, 117, 116, 32, 120, 32, 58, 32, 76, 111, 32, 46, 32, 49] = (zPrg, 2) := by kernel_rfl
theorem e63 : progR [100, 101, 102, 32, 102, 32, 61, 32, 49, 32, 46, 32, 50] = (zPrg, 2) := by kernel_rfl
theorem e64 : progR [105, 110, 112, 117, 116, 32, 120, 32, 58, 32, 76, 111, 32, 46] = (zPrg, 2) := by kernel_rfl
theorem e65 : printP p6 = [105, 110, 112, 117, 116, 32, 120, 32, 58, 32, 76, 111, 32, 46, 10, 99, 101, 108, 108, 32, 99, 32, 58, 32, 72, 105, 32, 61, 32, 53, 32, 46, 10, 100, 101, 102, 32, 102, 32, 61, 32, 102, 117, 110, 32, 121, 32, 61, 62, 32, 121, 32, 46, 10, 99, 32, 58, 61, 32, 40, 32, 102, 32, 120, 32, 41, 10] := by kernel_rfl
theorem e66 : sizeP p6 = 7 := by kernel_rfl
theorem e67 : samePrg p6 p6 = true := by kernel_rfl
theorem e68 : printP zPrg = [] := by kernel_rfl
end Go.Proofs.YtchekgnacodolaaGreatDoor.X
end
section
namespace Go.Proofs.YtchekgnacodolaaGreatDoor.X
set_option linter.unusedSimpArgs false
set_option linter.unusedVariables false
theorem shown_ind {P : Tm → Prop} (num : ∀ n : Int, 0 ≤ n → n < 2147483648 → P ⟨1, noName, n, []⟩) (var : ∀ nm, wordB nm = true → P (tm 2 nm []))
    (fun_ : ∀ nm a, wordB nm = true → nodesT a = true → P a → P (tm 3 nm [a])) (app : ∀ a b, nodesT a = true → nodesT b = true → P a → P b → P (tm 4 noName [a, b]))
    (let_ : ∀ nm a b, wordB nm = true → nodesT a = true → nodesT b = true → P a → P b → P (tm 5 nm [a, b])) (if_ : ∀ a b c, nodesT a = true → nodesT b = true → nodesT c = true → P a → P b → P c → P (tm 6 noName [a, b, c]))
    (while_ : ∀ a b, nodesT a = true → nodesT b = true → P a → P b → P (tm 7 noName [a, b])) (raise : ∀ a, nodesT a = true → P a → P (tm 8 noName [a]))
    (try_ : ∀ nm a b, wordB nm = true → nodesT a = true → nodesT b = true → P a → P b → P (tm 9 nm [a, b])) (get : ∀ a, nodesT a = true → P a → P (tm 10 noName [a]))
    (set : ∀ a b, nodesT a = true → nodesT b = true → P a → P b → P (tm 11 noName [a, b])) (op : ∀ nm a b, nm ∈ opWords → nodesT a = true → nodesT b = true → P a → P b → P (tm 12 nm [a, b]))
    (seq : ∀ a b, nodesT a = true → nodesT b = true → P a → P b → P (tm 13 noName [a, b])) (t : Tm) : nodesT t = true → P t := by
  induction t using Tm.ind with
  | h k nm n kids ih =>
    intro h
    rw [nodesT, Bool.and_eq_true] at h
    obtain ⟨h1, h2⟩ := h
    have hn := (nodeB_iff k nm n kids.length).1 h1
    have nd : ∀ t ∈ kids, nodesT t = true := nodessT_mem h2
    have pd : ∀ t ∈ kids, P t := fun t ht => ih t ht (nd t ht)
    have hnm := hn.nm
    have hz : k ≠ 1 → n = 0 := fun h => by rcases hn.nz with h' | h'; exact absurd h' h; exact h'
    rcases kids_cases hn.kids ⟨hn.k1, hn.k2⟩ with ⟨rfl, rfl⟩ | ⟨rfl, rfl⟩ | ⟨hk, a, rfl⟩ | ⟨hk, a, b, rfl⟩ | ⟨rfl, a, b, c, rfl⟩
    · rw [if_neg (by decide), if_neg (by decide)] at hnm
      subst hnm
      exact num n hn.n0 hn.n1
    · obtain rfl := hz (by decide)
      rw [if_pos (by decide)] at hnm
      exact var nm hnm
    · have na := nd a (by simp)
      have pa := pd a (by simp)
      rcases hk with rfl | rfl | rfl
      · obtain rfl := hz (by decide)
        rw [if_pos (by decide)] at hnm
        exact fun_ nm a hnm na pa
      · obtain rfl := hz (by decide)
        rw [if_neg (by decide), if_neg (by decide)] at hnm
        subst hnm
        exact raise a na pa
      · obtain rfl := hz (by decide)
        rw [if_neg (by decide), if_neg (by decide)] at hnm
        subst hnm
        exact get a na pa
    · have na := nd a (by simp)
      have pa := pd a (by simp)
      have nb := nd b (by simp)
      have pb := pd b (by simp)
      rcases hk with rfl | rfl | rfl | rfl | rfl | rfl | rfl
      · obtain rfl := hz (by decide)
        rw [if_neg (by decide), if_neg (by decide)] at hnm
        subst hnm
        exact app a b na nb pa pb
      · obtain rfl := hz (by decide)
        rw [if_pos (by decide)] at hnm
        exact let_ nm a b hnm na nb pa pb
      · obtain rfl := hz (by decide)
        rw [if_neg (by decide), if_neg (by decide)] at hnm
        subst hnm
        exact while_ a b na nb pa pb
      · obtain rfl := hz (by decide)
        rw [if_pos (by decide)] at hnm
        exact try_ nm a b hnm na nb pa pb
      · obtain rfl := hz (by decide)
        rw [if_neg (by decide), if_neg (by decide)] at hnm
        subst hnm
        exact set a b na nb pa pb
      · obtain rfl := hz (by decide)
        rw [if_neg (by decide), if_pos rfl] at hnm
        exact op nm a b hnm na nb pa pb
      · obtain rfl := hz (by decide)
        rw [if_neg (by decide), if_neg (by decide)] at hnm
        subst hnm
        exact seq a b na nb pa pb
    · obtain rfl := hz (by decide)
      rw [if_neg (by decide), if_neg (by decide)] at hnm
      subst hnm
      exact if_ a b c (nd a (by simp)) (nd b (by simp)) (nd c (by simp)) (pd a (by simp)) (pd b (by simp)) (pd c (by simp))
theorem right_key {w : ByteArray} (h : w ∈ keyWords) : rightT (keyTok w) = true := by
  have hk : isKey w = true := (isKey_iff w).2 h
  have e : wordTok w.data.toList = ⟨3, w.data.toList, 0, w.data.toList.length, true⟩ := by unfold wordTok; rw [B_of, if_pos hk]
  unfold rightT keyTok
  simp only [e]; rfl
theorem right_name {w : ByteArray} (h : wordB w = true) : rightT (nameTok w) = true := by
  unfold wordB at h
  simp only [Bool.and_eq_true, Bool.not_eq_true'] at h
  have e : wordTok w.data.toList = ⟨1, w.data.toList, 0, w.data.toList.length, true⟩ := by unfold wordTok; rw [B_of, h.2, h.1]; rfl
  unfold rightT nameTok
  simp only [e]; rfl
theorem right_mark {w : ByteArray} (h : w ∈ markWords) : rightT (markTok w) = true := by
  have hself : markWords.all (fun m => markL m.data.toList == some m.data.toList) = true := by decide +kernel
  have := List.all_eq_true.1 hself w h
  unfold rightT markTok
  simp only [this]; rfl
theorem itoaF_dec {n : Int} (h0 : 0 ≤ n) (h1 : n < 2147483648) : itoaF n = Lib.decDigits n.toNat := by
  unfold itoaF
  rw [if_neg (by omega), decF_eq 20 _ (by omega) (by omega)]
theorem right_num {n : Int} (h0 : 0 ≤ n) (h1 : n < 2147483648) : rightT (numTok n) = true := by
  unfold rightT numTok
  simp only
  rw [itoaF_dec h0 h1, num_dec n.toNat (by omega)]
  simp; omega
theorem name_right {t : TokT} (h : rightT t = true) (h1 : t.f0 = 1) : wordB t.f1 = true ∧ t = nameTok t.f1 := by
  obtain ⟨f0, f1, f2⟩ := t
  simp only at h1
  subst h1
  unfold rightT at h
  dsimp only at h
  rw [if_pos (show (1 : Int) = 1 ∨ (1 : Int) = 3 from .inl rfl)] at h
  simp only [Bool.and_eq_true, beq_iff_eq] at h
  obtain ⟨⟨h2, h3⟩, rfl⟩ := h
  refine ⟨?_, rfl⟩
  unfold wordTok at h2 h3
  rw [B_of] at h2 h3
  unfold wordB
  by_cases hk : isKey f1 = true
  · rw [if_pos hk] at h3; cases h3
  · rw [if_neg hk] at h2; simp only at h2; rw [h2]; simpa using hk
theorem num_right2 {t : TokT} (h : rightT t = true) (h1 : t.f0 = 2) : 0 ≤ t.f2 ∧ t.f2 < 2147483648 ∧ t = numTok t.f2 := by
  obtain ⟨f0, f1, f2⟩ := t
  simp only at h1
  subst h1
  unfold rightT at h
  dsimp only at h
  rw [if_neg (by decide), if_pos rfl] at h
  simp only [Bool.and_eq_true, beq_iff_eq, decide_eq_true_eq] at h
  obtain ⟨⟨h2, h3⟩, h4⟩ := h
  have e := B_of f1
  rw [← e] at h2 h3 h4
  obtain ⟨v, hv, hd⟩ := (num_iff f1.data.toList).1 ⟨h2, h3⟩
  rw [hd, num_dec v hv] at h4
  simp only at h4
  subst h4
  refine ⟨by simp, by simp; omega, ?_⟩
  unfold numTok
  simp only
  rw [itoaF_dec (by omega) (by omega), Int.toNat_natCast, ← hd, e]
theorem kw_mem : ∀ w ∈ [kFun, kLet, kIn, kIf, kThen, kElse, kWhile, kDo, kRaise, kTry, kWith], w ∈ keyWords := by
  intro w hw
  simp only [List.mem_cons, List.not_mem_nil, or_false] at hw
  rcases hw with rfl | rfl | rfl | rfl | rfl | rfl | rfl | rfl | rfl | rfl | rfl <;> simp [keyWords, kFun, kLet, kIn, kIf, kThen, kElse, kWhile, kDo, kRaise, kTry, kWith]
theorem mw_mem : ∀ w ∈ [mArrow, mSet, mOpen, mClose, mSeq, mEq, mGet] ++ opWords, w ∈ markWords := by
  intro w hw
  simp only [opWords, List.mem_cons, List.not_mem_nil, or_false, List.mem_append] at hw
  rcases hw with (rfl | rfl | rfl | rfl | rfl | rfl | rfl) | (rfl | rfl | rfl | rfl | rfl) <;> simp [markWords, mArrow, mSet, mOpen, mClose, mSeq, mEq, mGet]
theorem rk {w : ByteArray} (h : w ∈ [kFun, kLet, kIn, kIf, kThen, kElse, kWhile, kDo, kRaise, kTry, kWith]) : rightT (keyTok w) = true := right_key (kw_mem w h)
theorem rm {w : ByteArray} (h : w ∈ [mArrow, mSet, mOpen, mClose, mSeq, mEq, mGet] ++ opWords) : rightT (markTok w) = true := right_mark (mw_mem w h)
theorem in_right {t : Tm} (h : (toksT t).all rightT = true) : (inT t).all rightT = true := by
  unfold inT withinT
  split
  · exact h
  · rw [List.all_append, List.all_cons, h, rm (by simp)]; simp [rm (w := mClose) (by simp)]
theorem toks_right (t : Tm) (h : nodesT t = true) : (toksT t).all rightT = true := by
  refine shown_ind (P := fun t => (toksT t).all rightT = true) ?_ ?_ ?_ ?_ ?_ ?_ ?_ ?_ ?_ ?_ ?_ ?_ ?_ t h
  · intro n h0 h1; show ([numTok n]).all rightT = true; simp [right_num h0 h1]
  · intro nm hn; show ([nameTok nm]).all rightT = true; simp [right_name hn]
  · intro nm a hn _ pa; show (keyTok kFun :: nameTok nm :: markTok mArrow :: inT a).all rightT = true
    simp only [List.all_cons, rk (w := kFun) (by simp), right_name hn, rm (w := mArrow) (by simp), in_right pa, Bool.and_true]
  · intro a b _ _ pa pb; show (inT a ++ inT b).all rightT = true; rw [List.all_append, in_right pa, in_right pb]; rfl
  · intro nm a b hn _ _ pa pb; show (keyTok kLet :: nameTok nm :: markTok mEq :: (inT a ++ keyTok kIn :: inT b)).all rightT = true
    simp only [List.all_cons, List.all_append, rk (w := kLet) (by simp), rk (w := kIn) (by simp), right_name hn, rm (w := mEq) (by simp), in_right pa, in_right pb, Bool.and_true]
  · intro a b c _ _ _ pa pb pc; show (keyTok kIf :: (inT a ++ keyTok kThen :: (inT b ++ keyTok kElse :: inT c))).all rightT = true
    simp only [List.all_cons, List.all_append, rk (w := kIf) (by simp), rk (w := kThen) (by simp), rk (w := kElse) (by simp), in_right pa, in_right pb, in_right pc, Bool.and_true]
  · intro a b _ _ pa pb; show (keyTok kWhile :: (inT a ++ keyTok kDo :: inT b)).all rightT = true
    simp only [List.all_cons, List.all_append, rk (w := kWhile) (by simp), rk (w := kDo) (by simp), in_right pa, in_right pb, Bool.and_true]
  · intro a _ pa; show (keyTok kRaise :: inT a).all rightT = true
    simp only [List.all_cons, rk (w := kRaise) (by simp), in_right pa, Bool.and_true]
  · intro nm a b hn _ _ pa pb; show (keyTok kTry :: (inT a ++ keyTok kWith :: nameTok nm :: markTok mArrow :: inT b)).all rightT = true
    simp only [List.all_cons, List.all_append, rk (w := kTry) (by simp), rk (w := kWith) (by simp), right_name hn, rm (w := mArrow) (by simp), in_right pa, in_right pb, Bool.and_true]
  · intro a _ pa; show (markTok mGet :: inT a).all rightT = true
    simp only [List.all_cons, rm (w := mGet) (by simp), in_right pa, Bool.and_true]
  · intro a b _ _ pa pb; show (inT a ++ markTok mSet :: inT b).all rightT = true
    simp only [List.all_cons, List.all_append, rm (w := mSet) (by simp), in_right pa, in_right pb, Bool.and_true]
  · intro nm a b hn _ _ pa pb; show (inT a ++ markTok nm :: inT b).all rightT = true
    simp only [List.all_cons, List.all_append, rm (w := nm) (List.mem_append_right _ hn), in_right pa, in_right pb, Bool.and_true]
  · intro a b _ _ pa pb; show (inT a ++ markTok mSeq :: inT b).all rightT = true
    simp only [List.all_cons, List.all_append, rm (w := mSeq) (by simp), in_right pa, in_right pb, Bool.and_true]
def Bal (d : Int) (ts : List TokT) : Prop := ∀ n m : Int, ∃ m', ts.foldl nestStep (n, m) = (n, m') ∧ m ≤ m' ∧ m' ≤ max m (n + d)
theorem Bal.nil {d : Int} (h : 0 ≤ d) : Bal d [] := fun n m => ⟨m, rfl, Int.le_refl _, by omega⟩
theorem Bal.app {d : Int} {a b : List TokT} (h : Bal d a) (k : Bal d b) : Bal d (a ++ b) := by
  intro n m
  obtain ⟨m1, e1, h1, h2⟩ := h n m
  obtain ⟨m2, e2, h3, h4⟩ := k n m1
  exact ⟨m2, by rw [List.foldl_append, e1, e2], by omega, by omega⟩
theorem Bal.cons {d : Int} {x : TokT} {a : List TokT} (hx : ∀ n m, nestStep (n, m) x = (n, m) ∨ nestStep (n, m) x = (n, max m n)) (hd : 0 ≤ d) (k : Bal d a) : Bal d (x :: a) := by
  intro n m
  rw [List.foldl_cons]
  rcases hx n m with e | e
  · rw [e]; exact k n m
  · rw [e]
    obtain ⟨m2, e2, h3, h4⟩ := k n (max m n)
    exact ⟨m2, e2, by omega, by omega⟩
theorem Bal.mono {d d' : Int} {a : List TokT} (h : Bal d a) (hd : d ≤ d') : Bal d' a := fun n m => by
  obtain ⟨m1, e1, h1, h2⟩ := h n m
  exact ⟨m1, e1, h1, by omega⟩
theorem size_pos (t : Tm) : 1 ≤ sizeT t := by cases t; rw [sizeT]; omega
end Go.Proofs.YtchekgnacodolaaGreatDoor.X
end
section
namespace Go.Proofs.YtchekgnacodolaaGreatDoor.X
set_option linter.unusedSimpArgs false
set_option linter.unusedVariables false
def W : List TokT → Nat
  | [] => 0
  | t :: r => t.f1.size + 1 + W r
theorem W_app (a b : List TokT) : W (a ++ b) = W a + W b := by
  induction a with
  | nil => simp [W]
  | cons x a ih => rw [List.cons_append, W, W, ih]; omega
theorem W_cons (x : TokT) (r : List TokT) : W (x :: r) = x.f1.size + 1 + W r := rfl
theorem W_in (t : Tm) : W (inT t) ≤ W (toksT t) + 4 := by
  unfold inT withinT
  split
  · omega
  · rw [W_app, W_cons]
    have e1 : (markTok mOpen).f1.size = 1 := rfl
    have e2 : W [markTok mClose] = 2 := rfl
    omega
theorem W_len (l : List TokT) : (printL l).length ≤ W l := by
  refine Nat.le_trans (printL_len l) ?_
  induction l with
  | nil => exact Nat.le_refl _
  | cons x l ih => rw [List.map_cons, List.sum_cons, W]; omega
structure Good (c : Nat) (t : Tm) : Prop where
  nodes : nodesT t = true
  w : W (inT t) + 4 ≤ 4 * c
  n : sizeT t + 1 ≤ c
def Holds (a : PR) (Q : Tm → List TokT → Prop) : Prop := ∀ t s', a = some (some (t, s')) → Q t s'
theorem Holds.fail (Q : Tm → List TokT → Prop) : Holds (some none) Q := fun _ _ h => by cases h
theorem Holds.none (Q : Tm → List TokT → Prop) : Holds Option.none Q := fun _ _ h => by cases h
theorem Holds.ret {Q : Tm → List TokT → Prop} {t : Tm} {s : List TokT} (h : Q t s) : Holds (PR.ret t s) Q := fun _ _ e => by injection e with e; injection e with e; injection e with e1 e2; subst e1 e2; exact h
theorem Holds.then_ {Q Q' : Tm → List TokT → Prop} {a : PR} {f : Tm → List TokT → PR} (h : Holds a Q) (hf : ∀ t s, Q t s → Holds (f t s) Q') : Holds (a.then_ f) Q' := by
  intro t s' e
  cases a with
  | none => cases e
  | some x =>
    cases x with
    | none => cases e
    | some p => exact hf p.1 p.2 (h _ _ rfl) t s' e
theorem Holds.ite {Q : Tm → List TokT → Prop} {c : Prop} [Decidable c] {a b : PR} (h : c → Holds a Q) (k : ¬ c → Holds b Q) : Holds (if c then a else b) Q := by
  split
  · exact h ‹_›
  · exact k ‹_›
theorem isL_w {s : List TokT} {m : ByteArray} (h : isL s m = true) (hr : s.all rightT = true) : s.tail.all rightT = true ∧ W s = m.size + 1 + W s.tail := by
  obtain ⟨x, r, rfl⟩ := isL_ne h
  rw [isL_cons, Bool.and_eq_true] at h
  have e := ba_eq (eq_of_beq h.2)
  rw [List.all_cons, Bool.and_eq_true] at hr
  refine ⟨hr.2, ?_⟩
  rw [W_cons, e]; rfl
theorem Holds.key {Q Q' : Tm → List TokT → Prop} {a : PR} {m : ByteArray} {f : Tm → List TokT → PR} (h : Holds a Q) (hf : ∀ t s, Q t s → isL s m = true → Holds (f t s.tail) Q') : Holds (a.key m f) Q' :=
  h.then_ fun t s q => Holds.ite (fun c => hf t s q c) fun _ => Holds.fail _
theorem Holds.name {Q' : Tm → List TokT → Prop} {s : List TokT} {m : ByteArray} {f : ByteArray → List TokT → PR} (hr : s.all rightT = true) (hf : ∀ n s', wordB n = true → s'.all rightT = true → W s = n.size + 1 + (m.size + 1) + W s' → Holds (f n s') Q') : Holds (PR.name (boundL s m) f) Q' := by
  unfold boundL
  split
  · rename_i h1
    split
    · rename_i h2
      obtain ⟨x, r, rfl⟩ := peek_ne (s := s) (by rw [h1]; decide)
      rw [List.all_cons, Bool.and_eq_true] at hr
      obtain ⟨h3, h4⟩ := isL_w h2 hr.2
      refine hf x.f1 _ (name_right hr.1 h1).1 h3 ?_
      rw [W_cons]
      simp only [List.tail_cons] at h4 ⊢
      omega
    · exact Holds.fail _
  · exact Holds.fail _
def Q0 (c0 : Nat) (s : List TokT) (t : Tm) (s' : List TokT) : Prop := s'.all rightT = true ∧ W s' ≤ W s ∧ Good (c0 + (W s - W s')) t
theorem word_nodes1 {nm : ByteArray} {x : Tm} (hn : wordB nm = true) (h : nodesT x = true) : nodesT (tm 3 nm [x]) = true := by
  show (nodeB 3 nm 0 1 && (nodesT x && true)) = true
  rw [h, (nodeB_iff 3 nm 0 1).2 ⟨by decide, by decide, rfl, by decide, by decide, .inr rfl, by rw [if_pos (by decide)]; exact hn⟩]; rfl
theorem word_nodes2 {nm : ByteArray} {x y : Tm} (k : Int) (hk : k = 5 ∨ k = 9) (hn : wordB nm = true) (h : nodesT x = true) (h' : nodesT y = true) : nodesT (tm k nm [x, y]) = true := by
  show (nodeB k nm 0 2 && (nodesT x && (nodesT y && true))) = true
  rcases hk with rfl | rfl
  · rw [h, h', (nodeB_iff 5 nm 0 2).2 ⟨by decide, by decide, rfl, by decide, by decide, .inr rfl, by rw [if_pos (by decide)]; exact hn⟩]; rfl
  · rw [h, h', (nodeB_iff 9 nm 0 2).2 ⟨by decide, by decide, rfl, by decide, by decide, .inr rfl, by rw [if_pos (by decide)]; exact hn⟩]; rfl
theorem plain_nodes1 {x : Tm} (k : Int) (hk : k = 8 ∨ k = 10) (h : nodesT x = true) : nodesT (tm k noName [x]) = true := by
  show (nodeB k noName 0 1 && (nodesT x && true)) = true
  rcases hk with rfl | rfl <;> rw [h, (nodeB_iff _ noName 0 1).2 ⟨by decide, by decide, rfl, by decide, by decide, .inr rfl, by rw [if_neg (by decide), if_neg (by decide)]⟩] <;> rfl
theorem plain_nodes2 {x y : Tm} (k : Int) (hk : k = 4 ∨ k = 7 ∨ k = 11 ∨ k = 13) (h : nodesT x = true) (h' : nodesT y = true) : nodesT (tm k noName [x, y]) = true := by
  show (nodeB k noName 0 2 && (nodesT x && (nodesT y && true))) = true
  rcases hk with rfl | rfl | rfl | rfl <;> rw [h, h', (nodeB_iff _ noName 0 2).2 ⟨by decide, by decide, rfl, by decide, by decide, .inr rfl, by rw [if_neg (by decide), if_neg (by decide)]⟩] <;> rfl
theorem op_nodes {nm : ByteArray} {x y : Tm} (hn : nm ∈ opWords) (h : nodesT x = true) (h' : nodesT y = true) : nodesT (tm 12 nm [x, y]) = true := by
  show (nodeB 12 nm 0 2 && (nodesT x && (nodesT y && true))) = true
  rw [h, h', (nodeB_iff 12 nm 0 2).2 ⟨by decide, by decide, rfl, by decide, by decide, .inr rfl, by rw [if_neg (by decide), if_pos rfl]; exact hn⟩]; rfl
theorem if_nodes {x y z : Tm} (h : nodesT x = true) (h' : nodesT y = true) (h'' : nodesT z = true) : nodesT (tm 6 noName [x, y, z]) = true := by
  show (nodeB 6 noName 0 3 && (nodesT x && (nodesT y && (nodesT z && true)))) = true
  rw [h, h', h'', (nodeB_iff 6 noName 0 3).2 ⟨by decide, by decide, rfl, by decide, by decide, .inr rfl, by rw [if_neg (by decide), if_neg (by decide)]⟩]; rfl
theorem size1 (k : Int) (nm : ByteArray) (x : Tm) : sizeT (tm k nm [x]) = 1 + sizeT x := rfl
theorem size2 (k : Int) (nm : ByteArray) (x y : Tm) : sizeT (tm k nm [x, y]) = 1 + (sizeT x + sizeT y) := rfl
theorem size3 (k : Int) (nm : ByteArray) (x y z : Tm) : sizeT (tm k nm [x, y, z]) = 1 + (sizeT x + (sizeT y + sizeT z)) := rfl
theorem wk (w : ByteArray) (r : List TokT) : W (keyTok w :: r) = w.size + 1 + W r := rfl
theorem wm (w : ByteArray) (r : List TokT) : W (markTok w :: r) = w.size + 1 + W r := rfl
theorem wn (w : ByteArray) (r : List TokT) : W (nameTok w :: r) = w.size + 1 + W r := rfl
theorem num_nodes {n : Int} (h0 : 0 ≤ n) (h1 : n < 2147483648) : nodesT ⟨1, noName, n, []⟩ = true := by
  show (nodeB 1 noName n 0 && true) = true
  rw [(nodeB_iff 1 noName n 0).2 ⟨by decide, by decide, rfl, h0, h1, .inl rfl, by rw [if_neg (by decide), if_neg (by decide)]⟩]; rfl
theorem var_nodes {nm : ByteArray} (hn : wordB nm = true) : nodesT (tm 2 nm []) = true := by
  show (nodeB 2 nm 0 0 && true) = true
  rw [(nodeB_iff 2 nm 0 0).2 ⟨by decide, by decide, rfl, by decide, by decide, .inr rfl, by rw [if_pos (by decide)]; exact hn⟩]; rfl
theorem word_size {nm : ByteArray} (h : wordB nm = true) : 1 ≤ nm.size := by
  unfold wordB at h
  rw [Bool.and_eq_true] at h
  rw [size_len]
  cases hd : nm.data.toList with
  | nil => rw [hd] at h; simp [nameL] at h
  | cons b r => simp
theorem num_size {n : Int} (h0 : 0 ≤ n) (h1 : n < 2147483648) : 1 ≤ (numTok n).f1.size := by
  have : (numTok n).f1.size = (itoaF n).length := B_size _
  rw [this]
  unfold itoaF
  rw [if_neg (by omega)]
  have := decF_ne 19 n.toNat
  cases hd : decF 20 n.toNat with
  | nil => exact absurd hd this
  | cons b r => simp
def Pre (c0 : Nat) : Mode → Prop
  | .apps t => Good c0 t
  | _ => c0 = 0
theorem run_good : ∀ k m s c0, s.all rightT = true → Pre c0 m → Holds (run k m s) (Q0 c0 s)
  | 0, m, s, c0, _, _ => Holds.none _
  | k + 1, m, s, c0, hr, hp => by
    have ih : ∀ (m : Mode) (s : List TokT), s.all rightT = true → Pre 0 m → Holds (run k m s) (Q0 0 s) := fun m s h h' => run_good k m s 0 h h'
    have sz : mOpen.size = 1 ∧ mClose.size = 1 ∧ mGet.size = 1 ∧ mSet.size = 2 ∧ mSeq.size = 1 ∧ mArrow.size = 2 ∧ mEq.size = 1 := ⟨rfl, rfl, rfl, rfl, rfl, rfl, rfl⟩
    have sk : kFun.size = 3 ∧ kLet.size = 3 ∧ kIn.size = 2 ∧ kIf.size = 2 ∧ kThen.size = 4 ∧ kElse.size = 4 ∧ kWhile.size = 5 ∧ kDo.size = 2 ∧ kRaise.size = 5 ∧ kTry.size = 3 ∧ kWith.size = 4 := ⟨rfl, rfl, rfl, rfl, rfl, rfl, rfl, rfl, rfl, rfl, rfl⟩
    obtain ⟨z1, z2, z3, z4, z5, z6, z7⟩ := sz
    obtain ⟨k1, k2, k3, k4, k5, k6, k7, k8, k9, k10, k11⟩ := sk
    have P1 : ∀ (nm : ByteArray) (n : Int) (kk : Int) (kids : List Tm) (c : Nat), W (toksT ⟨kk, nm, n, kids⟩) + 8 ≤ 4 * c → W (inT ⟨kk, nm, n, kids⟩) + 4 ≤ 4 * c := fun nm n kk kids c h => by have := W_in ⟨kk, nm, n, kids⟩; omega
    cases m with
    | part =>
      obtain rfl : c0 = 0 := hp
      refine Holds.ite (fun c => ?_) fun _ => Holds.ite (fun c => ?_) fun _ => Holds.ite (fun c => ?_) fun _ => Holds.ite (fun c => ?_) fun _ => Holds.fail _
      · obtain ⟨r1, w1⟩ := isL_w c hr
        refine (ih .part _ r1 rfl).then_ fun t s1 ⟨a1, a2, a3⟩ => Holds.ret ⟨a1, by omega, plain_nodes1 10 (.inr rfl) a3.nodes, P1 _ _ _ _ _ ?_, ?_⟩
        · show W (markTok mGet :: inT t) + 8 ≤ _
          have := a3.w
          rw [wm]; omega
        · have := a3.n
          rw [size1]; omega
      · obtain ⟨r1, w1⟩ := isL_w c hr
        refine (ih .all _ r1 rfl).key fun t s1 ⟨a1, a2, a3⟩ c2 => ?_
        obtain ⟨r2, w2⟩ := isL_w c2 a1
        exact Holds.ret ⟨r2, by omega, a3.nodes, by have := a3.w; omega, by have := a3.n; omega⟩
      · obtain ⟨x, r, rfl⟩ := peek_ne (s := s) (by rw [c]; decide)
        rw [List.all_cons, Bool.and_eq_true] at hr
        obtain ⟨hw, he⟩ := name_right hr.1 c
        have hs := word_size hw
        refine Holds.ret ⟨hr.2, by rw [W_cons]; exact Nat.le_add_left _ _, var_nodes hw, ?_, ?_⟩
        · show W [nameTok x.f1] + 4 ≤ _
          rw [wn, W_cons, List.tail_cons]
          simp only [W]
          omega
        · show 1 + 1 ≤ _
          rw [W_cons, List.tail_cons]; omega
      · obtain ⟨x, r, rfl⟩ := peek_ne (s := s) (by rw [c]; decide)
        rw [List.all_cons, Bool.and_eq_true] at hr
        obtain ⟨h0, h1, he⟩ := num_right2 hr.1 c
        have hs := num_size h0 h1
        rw [← he] at hs
        refine Holds.ret ⟨hr.2, by rw [W_cons]; exact Nat.le_add_left _ _, num_nodes h0 h1, ?_, ?_⟩
        · show W [numTok x.f2] + 4 ≤ _
          rw [← he]
          rw [W_cons, W_cons, List.tail_cons]
          simp only [W]
          omega
        · show 1 + 1 ≤ _
          rw [W_cons, List.tail_cons]; omega
    | apps t =>
      have hg : Good c0 t := hp
      refine Holds.ite (fun c => ?_) fun _ => Holds.ret ⟨hr, Nat.le_refl _, by rw [Nat.sub_self, Nat.add_zero]; exact hg⟩
      refine (ih .part s hr rfl).then_ fun u s1 ⟨a1, a2, a3⟩ => ?_
      have hgood : Good (c0 + (W s - W s1)) (tm 4 noName [t, u]) := by
        refine ⟨plain_nodes2 4 (.inl rfl) hg.nodes a3.nodes, P1 _ _ _ _ _ ?_, ?_⟩
        · show W (inT t ++ inT u) + 8 ≤ _
          have h1 := hg.w
          have h2 := a3.w
          rw [W_app]; omega
        · have h1 := hg.n
          have h2 := a3.n
          have h3 := a3.w
          have h4 := hg.w
          rw [size2]
          omega
      have := run_good k (.apps (tm 4 noName [t, u])) s1 _ a1 hgood
      intro v s2 e
      obtain ⟨b1, b2, b3⟩ := this v s2 e
      refine ⟨b1, by omega, ?_⟩
      have e2 : c0 + (W s - W s1) + (W s1 - W s2) = c0 + (W s - W s2) := by omega
      rw [← e2]; exact b3
    | parts =>
      obtain rfl : c0 = 0 := hp
      refine (ih .part s hr rfl).then_ fun u s1 ⟨a1, a2, a3⟩ => ?_
      have := run_good k (.apps u) s1 _ a1 a3
      intro v s2 e
      obtain ⟨b1, b2, b3⟩ := this v s2 e
      refine ⟨b1, by omega, ?_⟩
      have e2 : 0 + (W s - W s1) + (W s1 - W s2) = 0 + (W s - W s2) := by omega
      rw [← e2]; exact b3
    | plain =>
      obtain rfl : c0 = 0 := hp
      refine (ih .parts s hr rfl).then_ fun t s1 ⟨a1, a2, a3⟩ => Holds.ite (fun c => ?_) fun _ => ?_
      · obtain ⟨r1, w1⟩ := isL_w c a1
        refine (ih .one _ r1 rfl).then_ fun u s2 ⟨b1, b2, b3⟩ => Holds.ret ⟨b1, by omega, plain_nodes2 11 (by simp) a3.nodes b3.nodes, P1 _ _ _ _ _ ?_, ?_⟩
        · show W (inT t ++ markTok mSet :: inT u) + 8 ≤ _
          have h1 := a3.w
          have h2 := b3.w
          rw [W_app, wm]; omega
        · have h1 := a3.n
          have h2 := b3.n
          rw [size2]; omega
      · cases hf : opWords.find? (isL s1) with
        | none => exact Holds.ret ⟨a1, a2, a3⟩
        | some o =>
          obtain ⟨r1, w1⟩ := isL_w (List.find?_some hf) a1
          have ho := List.mem_of_find?_eq_some hf
          have hos : o.size = 1 := by simp only [opWords, List.mem_cons, List.not_mem_nil, or_false] at ho; rcases ho with rfl | rfl | rfl | rfl | rfl <;> rfl
          refine (ih .parts _ r1 rfl).then_ fun u s2 ⟨b1, b2, b3⟩ => Holds.ret ⟨b1, by omega, op_nodes ho a3.nodes b3.nodes, P1 _ _ _ _ _ ?_, ?_⟩
          · show W (inT t ++ markTok o :: inT u) + 8 ≤ _
            have h1 := a3.w
            have h2 := b3.w
            rw [W_app, wm]; omega
          · have h1 := a3.n
            have h2 := b3.n
            rw [size2]; omega
    | one =>
      obtain rfl : c0 = 0 := hp
      refine Holds.ite (fun c => ?_) fun _ => Holds.ite (fun c => ?_) fun _ => Holds.ite (fun c => ?_) fun _ => Holds.ite (fun c => ?_) fun _ => Holds.ite (fun c => ?_) fun _ => Holds.ite (fun c => ?_) fun _ => ih .plain s hr rfl
      · obtain ⟨r1, w1⟩ := isL_w c hr
        refine Holds.name r1 fun n s1 hn r2 w2 => (ih .all _ r2 rfl).then_ fun x s2 ⟨b1, b2, b3⟩ => Holds.ret ⟨b1, by omega, word_nodes1 hn b3.nodes, P1 _ _ _ _ _ ?_, ?_⟩
        · show W (keyTok kFun :: nameTok n :: markTok mArrow :: inT x) + 8 ≤ _
          have h2 := b3.w
          rw [wk, wn, wm]; omega
        · have h2 := b3.n
          rw [size1]; omega
      · obtain ⟨r1, w1⟩ := isL_w c hr
        refine Holds.name r1 fun n s1 hn r2 w2 => (ih .all _ r2 rfl).key fun x s2 ⟨b1, b2, b3⟩ c2 => ?_
        obtain ⟨r3, w3⟩ := isL_w c2 b1
        refine (ih .all _ r3 rfl).then_ fun y s3 ⟨d1, d2, d3⟩ => Holds.ret ⟨d1, by omega, word_nodes2 5 (.inl rfl) hn b3.nodes d3.nodes, P1 _ _ _ _ _ ?_, ?_⟩
        · show W (keyTok kLet :: nameTok n :: markTok mEq :: (inT x ++ keyTok kIn :: inT y)) + 8 ≤ _
          have h2 := b3.w
          have h3 := d3.w
          rw [wk, wn, wm, W_app, wk]; omega
        · have h2 := b3.n
          have h3 := d3.n
          rw [size2]; omega
      · obtain ⟨r1, w1⟩ := isL_w c hr
        refine (ih .all _ r1 rfl).key fun x s2 ⟨b1, b2, b3⟩ c2 => ?_
        obtain ⟨r3, w3⟩ := isL_w c2 b1
        refine (ih .all _ r3 rfl).key fun y s3 ⟨d1, d2, d3⟩ c3 => ?_
        obtain ⟨r4, w4⟩ := isL_w c3 d1
        refine (ih .all _ r4 rfl).then_ fun z s4 ⟨f1, f2, f3⟩ => Holds.ret ⟨f1, by omega, if_nodes b3.nodes d3.nodes f3.nodes, P1 _ _ _ _ _ ?_, ?_⟩
        · show W (keyTok kIf :: (inT x ++ keyTok kThen :: (inT y ++ keyTok kElse :: inT z))) + 8 ≤ _
          have h2 := b3.w
          have h3 := d3.w
          have h4 := f3.w
          rw [wk, W_app, wk, W_app, wk]; omega
        · have h2 := b3.n
          have h3 := d3.n
          have h4 := f3.n
          rw [size3]; omega
      · obtain ⟨r1, w1⟩ := isL_w c hr
        refine (ih .all _ r1 rfl).key fun x s2 ⟨b1, b2, b3⟩ c2 => ?_
        obtain ⟨r3, w3⟩ := isL_w c2 b1
        refine (ih .all _ r3 rfl).then_ fun y s3 ⟨d1, d2, d3⟩ => Holds.ret ⟨d1, by omega, plain_nodes2 7 (by simp) b3.nodes d3.nodes, P1 _ _ _ _ _ ?_, ?_⟩
        · show W (keyTok kWhile :: (inT x ++ keyTok kDo :: inT y)) + 8 ≤ _
          have h2 := b3.w
          have h3 := d3.w
          rw [wk, W_app, wk]; omega
        · have h2 := b3.n
          have h3 := d3.n
          rw [size2]; omega
      · obtain ⟨r1, w1⟩ := isL_w c hr
        refine (ih .one _ r1 rfl).then_ fun x s2 ⟨b1, b2, b3⟩ => Holds.ret ⟨b1, by omega, plain_nodes1 8 (.inl rfl) b3.nodes, P1 _ _ _ _ _ ?_, ?_⟩
        · show W (keyTok kRaise :: inT x) + 8 ≤ _
          have h2 := b3.w
          rw [wk]; omega
        · have h2 := b3.n
          rw [size1]; omega
      · obtain ⟨r1, w1⟩ := isL_w c hr
        refine (ih .all _ r1 rfl).key fun x s2 ⟨b1, b2, b3⟩ c2 => ?_
        obtain ⟨r3, w3⟩ := isL_w c2 b1
        refine Holds.name r3 fun n s3 hn r4 w4 => (ih .all _ r4 rfl).then_ fun y s4 ⟨d1, d2, d3⟩ => Holds.ret ⟨d1, by omega, word_nodes2 9 (.inr rfl) hn b3.nodes d3.nodes, P1 _ _ _ _ _ ?_, ?_⟩
        · show W (keyTok kTry :: (inT x ++ keyTok kWith :: nameTok n :: markTok mArrow :: inT y)) + 8 ≤ _
          have h2 := b3.w
          have h3 := d3.w
          rw [wk, W_app, wk, wn, wm]; omega
        · have h2 := b3.n
          have h3 := d3.n
          rw [size2]; omega
    | all =>
      obtain rfl : c0 = 0 := hp
      refine (ih .one s hr rfl).then_ fun t s1 ⟨a1, a2, a3⟩ => Holds.ite (fun c => ?_) fun _ => Holds.ret ⟨a1, a2, a3⟩
      obtain ⟨r1, w1⟩ := isL_w c a1
      refine (ih .all _ r1 rfl).then_ fun u s2 ⟨b1, b2, b3⟩ => Holds.ret ⟨b1, by omega, plain_nodes2 13 (by simp) a3.nodes b3.nodes, P1 _ _ _ _ _ ?_, ?_⟩
      · show W (inT t ++ markTok mSeq :: inT u) + 8 ≤ _
        have h1 := a3.w
        have h2 := b3.w
        rw [W_app, wm]; omega
      · have h1 := a3.n
        have h2 := b3.n
        rw [size2]; omega
end Go.Proofs.YtchekgnacodolaaGreatDoor.X
end
section
namespace Go.Proofs.YtchekgnacodolaaGreatDoor.X
open Go.RowKit Go.Proofs.YtchekgnacodolaaGreatDoorW.PrintWords
set_option linter.unusedSimpArgs false
set_option linter.unusedVariables false
theorem mx_eq (a b : Int) : mx a b = max a b := by unfold mx; omega
theorem rdTok_at (l : List TokT) (i : Nat) (h : i < l.length) : rd_T106 l (i : Int) = l[i] := by
  unfold rd_T106; simp [List.getD_eq_getElem?_getD, List.getElem?_eq_getElem h]
theorem rdTm_at (l : List Tm) (i : Nat) (h : i < l.length) : rd_T26 l (i : Int) = l[i] := by
  unfold rd_T26; simp [List.getD_eq_getElem?_getD, List.getElem?_eq_getElem h]
theorem nested_loop (l : List TokT) (hl : l.length ≤ 1099511627776) (d : Nat) : ∀ (k i : Nat) (n m : Int), i ≤ l.length → l.length - i = d → d < k → -(i : Int) ≤ n → n ≤ i → 
    parse_nested.l0 k n m l (l.length : Int) (i : Int) = some ((l.drop i).foldl nestStep (n, m)).2 := by
  induction d with
  | zero =>
    intro k i n m h1 h2 h3 h4 h5
    obtain ⟨k, rfl⟩ : ∃ j, k = j + 1 := ⟨k - 1, by omega⟩
    simp only [parse_nested.l0]
    rw [if_neg (by omega), List.drop_of_length_le (by omega)]; rfl
  | succ d ih =>
    intro k i n m h1 h2 h3 h4 h5
    obtain ⟨k, rfl⟩ : ∃ j, k = j + 1 := ⟨k - 1, by omega⟩
    have hlt : i < l.length := by omega
    simp only [parse_nested.l0]
    rw [if_pos (by omega), if_pos (by omega), if_pos (by omega), rdTok_at l i hlt, List.drop_eq_getElem_cons hlt, List.foldl_cons]
    have e1 : wrap64 ((i : Int) + 1) = ((i + 1 : Nat) : Int) := by rw [wrap_id (by omega) (by omega)]; rfl
    have e2 : wrap64 (n + 1) = n + 1 := wrap_id (by omega) (by omega)
    have e3 : wrap64 (n - 1) = n - 1 := wrap_id (by omega) (by omega)
    rw [e1, e2, e3, mx_eq, mx_eq, mx_eq]
    clear e1 e2 e3
    have ihn := fun (n m : Int) (h : -((i + 1 : Nat) : Int) ≤ n) (h' : n ≤ ((i + 1 : Nat) : Int)) => ih k (i + 1) n m (by omega) (by omega) (by omega) h h'
    generalize l[i] = t
    unfold nestStep
    by_cases h4' : t.f0 = 4
    · rw [if_pos h4', if_neg (show ¬ (t.f0 ≠ 4) from fun h => h h4')]
      rw [← ByteArray.toList_eq]
      by_cases h40 : t.f1.toList = [40]
      · rw [if_pos h40]; simp only [if_pos h40]
        exact ihn (n + 1) (max m (n + 1)) (by omega) (by omega)
      · rw [if_neg h40]; simp only [if_neg h40]
        by_cases h41 : t.f1.toList = [41]
        · rw [if_pos h41]; simp only [if_pos h41]
          exact ihn (n - 1) (max m (n - 1)) (by omega) (by omega)
        · rw [if_neg h41]; simp only [if_neg h41]
          exact ihn n (max m n) (by omega) (by omega)
    · rw [if_neg h4', if_pos h4']
      exact ihn n m (by omega) (by omega)
theorem nested_eq (k : Nat) (l : List TokT) (hl : l.length ≤ 1099511627776) (hk : l.length < k) : parse_nested.f k l = some (nestL l) := by
  unfold parse_nested.f nestL
  have := nested_loop l hl l.length k 0 0 0 (by omega) (by omega) hk (by omega) (by omega)
  simpa using this
theorem size_mem {l : List Tm} {t : Tm} (h : t ∈ l) : sizeT t ≤ sizesT l := by
  induction l with
  | nil => cases h
  | cons x r ih =>
    rw [sizesT]
    rcases List.mem_cons.1 h with rfl | h
    · omega
    · have := ih h; omega
theorem sizes_len (l : List Tm) : l.length ≤ sizesT l := by
  induction l with
  | nil => simp
  | cons x r ih => have := size_pos x; rw [sizesT, List.length_cons]; omega
theorem sizes_app (a b : List Tm) : sizesT (a ++ b) = sizesT a + sizesT b := by
  induction a with
  | nil => simp [sizesT]
  | cons x r ih => rw [List.cons_append, sizesT, sizesT, ih]; omega
theorem sizes_drop (l : List Tm) (i : Nat) : sizesT (l.drop i) ≤ sizesT l := by
  have := sizes_app (l.take i) (l.drop i)
  rw [List.take_append_drop] at this; omega
theorem depth_le_size (t : Tm) : depthT t ≤ sizeT t := by
  induction t using Tm.ind with
  | h a b c l ih =>
    rw [depthT, sizeT]
    have : depthsT l ≤ sizesT l := by
      induction l with
      | nil => simp [depthsT, sizesT]
      | cons x r ihr =>
        have h1 := ih x (by simp)
        have h2 := ihr fun t ht => ih t (by simp [ht])
        rw [depthsT, sizesT]; omega
    omega
theorem size_loop (l : List Tm) (hl : sizesT l ≤ 9223372036854775806) (ih : ∀ t ∈ l, ∀ k, 2 * sizeT t ≤ k → term_Size.f k t.f0 t.f1 t.f2 t.f3 = some (sizeT t : Int)) (d : Nat) : ∀ (k i : Nat) (a : Nat), i ≤ l.length → l.length - i = d → 2 * sizesT (l.drop i) + 1 ≤ k → a + sizesT (l.drop i) ≤ 9223372036854775807 →
    term_Size.l0 k (a : Int) l (l.length : Int) (i : Int) = some ((a + sizesT (l.drop i) : Nat) : Int) := by
  have hlen := sizes_len l
  induction d with
  | zero =>
    intro k i a h1 h2 h3 h4
    obtain ⟨k, rfl⟩ : ∃ j, k = j + 1 := ⟨k - 1, by omega⟩
    simp only [term_Size.l0]
    rw [if_neg (by omega), List.drop_of_length_le (by omega)]
    rfl
  | succ d ihd =>
    intro k i a h1 h2 h3 h4
    obtain ⟨k, rfl⟩ : ∃ j, k = j + 1 := ⟨k - 1, by omega⟩
    have hlt : i < l.length := by omega
    have hd := List.drop_eq_getElem_cons hlt
    rw [hd, sizesT] at h3 h4 ⊢
    have hp := size_pos (l[i]'hlt)
    simp only [term_Size.l0]
    rw [if_pos (by omega), if_pos (by omega), if_pos (by omega), rdTm_at l i hlt, ih (l[i]'hlt) (List.getElem_mem hlt) k (by omega)]
    simp only [Option.bind_some]
    have e1 : wrap64 ((i : Int) + 1) = ((i + 1 : Nat) : Int) := by rw [wrap_id (by omega) (by omega)]; rfl
    have e2 : wrap64 ((a : Int) + (sizeT (l[i]'hlt) : Int)) = ((a + sizeT (l[i]'hlt) : Nat) : Int) := by rw [wrap_id (by omega) (by omega)]; rfl
    rw [e1, e2]
    clear e1 e2
    rw [ihd k (i + 1) (a + sizeT (l[i]'hlt)) (by omega) (by omega) (by omega) (by omega), Nat.add_assoc]
theorem size_eq (t : Tm) : sizeT t ≤ 9223372036854775807 → ∀ k, 2 * sizeT t ≤ k → term_Size.f k t.f0 t.f1 t.f2 t.f3 = some (sizeT t : Int) := by
  induction t using Tm.ind with
  | h a b c l ih =>
    intro hs k hk
    rw [sizeT] at hs hk ⊢
    obtain ⟨k, rfl⟩ : ∃ j, k = j + 1 := ⟨k - 1, by omega⟩
    have hloop := size_loop l (by omega) (fun t ht k hk => ih t ht (by have := size_mem ht; omega) k hk) l.length k 0 1 (by omega) (by omega) (by rw [List.drop_zero]; omega) (by rw [List.drop_zero]; omega)
    rw [List.drop_zero] at hloop
    rw [term_Size.f]
    exact hloop
theorem depth_loop (l : List Tm) (hl : sizesT l ≤ 9223372036854775806) (ih : ∀ t ∈ l, ∀ k, 2 * sizeT t ≤ k → term_Depth.f k t.f0 t.f1 t.f2 t.f3 = some (depthT t : Int)) (d : Nat) : ∀ (k i : Nat) (a : Nat), i ≤ l.length → l.length - i = d → 2 * sizesT (l.drop i) + 1 ≤ k → a ≤ 9223372036854775806 →
    term_Depth.l0 k (a : Int) l (l.length : Int) (i : Int) = some ((max a (depthsT (l.drop i)) + 1 : Nat) : Int) := by
  have hlen := sizes_len l
  induction d with
  | zero =>
    intro k i a h1 h2 h3 h4
    obtain ⟨k, rfl⟩ : ∃ j, k = j + 1 := ⟨k - 1, by omega⟩
    simp only [term_Depth.l0]
    rw [if_neg (by omega), List.drop_of_length_le (by omega), wrap_id (by omega) (by omega)]
    simp [depthsT]
  | succ d ihd =>
    intro k i a h1 h2 h3 h4
    obtain ⟨k, rfl⟩ : ∃ j, k = j + 1 := ⟨k - 1, by omega⟩
    have hlt : i < l.length := by omega
    have hd := List.drop_eq_getElem_cons hlt
    have hsd := sizes_drop l i
    rw [hd] at hsd ⊢
    rw [hd] at h3
    rw [sizesT] at h3 hsd
    rw [depthsT]
    have hp := size_pos (l[i]'hlt)
    have hds := depth_le_size (l[i]'hlt)
    simp only [term_Depth.l0]
    rw [if_pos (by omega), if_pos (by omega), if_pos (by omega), rdTm_at l i hlt, ih (l[i]'hlt) (List.getElem_mem hlt) k (by omega)]
    simp only [Option.bind_some]
    have e1 : wrap64 ((i : Int) + 1) = ((i + 1 : Nat) : Int) := by rw [wrap_id (by omega) (by omega)]; rfl
    have e2 : mx (a : Int) (depthT (l[i]'hlt) : Int) = ((max a (depthT (l[i]'hlt)) : Nat) : Int) := by rw [mx_eq]; omega
    rw [e1, e2]
    clear e1 e2
    rw [ihd k (i + 1) _ (by omega) (by omega) (by omega) (by omega), Nat.max_assoc]
theorem depth_eq (t : Tm) : sizeT t ≤ 9223372036854775807 → ∀ k, 2 * sizeT t ≤ k → term_Depth.f k t.f0 t.f1 t.f2 t.f3 = some (depthT t : Int) := by
  induction t using Tm.ind with
  | h a b c l ih =>
    intro hs k hk
    rw [sizeT] at hs hk
    rw [depthT]
    obtain ⟨k, rfl⟩ : ∃ j, k = j + 1 := ⟨k - 1, by omega⟩
    have hloop := depth_loop l (by omega) (fun t ht k hk => ih t ht (by have := size_mem ht; omega) k hk) l.length k 0 0 (by omega) (by omega) (by rw [List.drop_zero]; omega) (by omega)
    rw [List.drop_zero, Nat.zero_max] at hloop
    rw [term_Depth.f]
    exact hloop
theorem isKey_size {d : ByteArray} (h : isKey d = true) : d.size ≤ 16 := by
  have h1 := (isKey_iff d).1 h
  have : keyWords.all (fun m => decide (m.size ≤ 16)) = true := by decide +kernel
  simpa using List.all_eq_true.1 this _ h1
theorem right_size {t : TokT} (h : rightT t = true) : t.f1.size ≤ 16 := by
  have hc : t.f0 = 1 ∨ t.f0 = 3 ∨ t.f0 = 2 ∨ t.f0 = 4 := by
    unfold rightT at h
    by_cases h1 : t.f0 = 1 ∨ t.f0 = 3
    · rcases h1 with h1 | h1
      · exact .inl h1
      · exact .inr (.inl h1)
    · rw [if_neg h1] at h
      by_cases h2 : t.f0 = 2
      · exact .inr (.inr (.inl h2))
      · rw [if_neg h2] at h
        by_cases h4 : t.f0 = 4
        · exact .inr (.inr (.inr h4))
        · rw [if_neg h4] at h; cases h
  rcases hc with h1 | h1 | h1 | h1
  · have hw := (name_right h h1).1
    unfold wordB at hw
    rw [Bool.and_eq_true] at hw
    have hn := hw.1
    rw [size_len]
    cases hd : t.f1.data.toList with
    | nil => simp
    | cons b r => rw [hd] at hn; simp only [nameL, Bool.and_eq_true, decide_eq_true_eq] at hn; exact hn.2
  · unfold rightT at h
    rw [if_pos (Or.inr h1)] at h
    simp only [Bool.and_eq_true, beq_iff_eq] at h
    unfold wordTok at h
    rw [B_of] at h
    by_cases hk : isKey t.f1 = true
    · exact isKey_size hk
    · rw [if_neg hk] at h
      have := h.1.2
      rw [h1] at this
      simp only at this
      omega
  · obtain ⟨h0, h2, he⟩ := num_right2 h h1
    rw [he]
    have : (numTok t.f2).f1.size = (itoaF t.f2).length := B_size _
    rw [this, itoaF_dec h0 h2, dec_F _ (by omega)]
    exact Nat.le_trans (decF_len _ _) (by decide)
  · unfold rightT at h
    rw [if_neg (by omega), if_neg (by omega), if_pos h1] at h
    simp only [Bool.and_eq_true, beq_iff_eq] at h
    have hm := (markL_mem h.1).1
    have : (markWords.map (·.data.toList)).all (fun m => decide (m.length ≤ 16)) = true := by decide +kernel
    have := List.all_eq_true.1 this _ hm
    rw [size_len]
    simpa using this
theorem W_right {l : List TokT} (h : l.all rightT = true) : W l ≤ 17 * l.length := by
  induction l with
  | nil => simp [W]
  | cons x r ih =>
    rw [List.all_cons, Bool.and_eq_true] at h
    have := right_size h.1
    have := ih h.2
    rw [W, List.length_cons]; omega
theorem parse_size {l s : List TokT} {t : Tm} (hr : l.all rightT = true) (hp : parseL l = some (t, s)) : sizeT t ≤ 17 * l.length := by
  obtain ⟨_, _, hg⟩ := run_good _ .all l 0 hr rfl t s ((parseL_run l).trans (by rw [hp]))
  have := hg.n
  have := W_right hr
  omega
end Go.Proofs.YtchekgnacodolaaGreatDoor.X
end
section
namespace Go.Proofs.YtchekgnacodolaaGreatDoor.X
open Go.RowKit Go.Proofs.YtchekgnacodolaaGreatDoorW.PrintWords
set_option linter.unusedSimpArgs false
set_option linter.unusedVariables false
theorem rdS_get (l : List ByteArray) (i : Nat) (h : i < l.length) : rdOf ByteArray.empty l (i : Int) = l[i] := by
  unfold rdOf; simp [List.getD_eq_getElem?_getD, List.getElem?_eq_getElem h]
theorem forms_nil (l : List TokT) : formsL l [] = true := by cases l <;> rfl
theorem forms_len : ∀ (l : List TokT) (f : List ByteArray), formsL l f = true → f.length ≤ l.length
  | _, [], _ => by simp
  | [], _ :: _, h => by simp [formsL] at h
  | t :: l, w :: f, h => by
    rw [formsL, Bool.and_eq_true] at h
    have := forms_len l f h.2
    simp only [List.length_cons]; omega
theorem form_loop (l : List TokT) (f : List ByteArray) (hl : l.length ≤ 1099511627776) (hf : f.length ≤ l.length) (d : Nat) : ∀ (k i : Nat), i ≤ f.length → f.length - i = d → 2 * d + 1 ≤ k →
    prog_form.l0 k l f (f.length : Int) (i : Int) = some (formsL (l.drop i) (f.drop i)) := by
  induction d with
  | zero =>
    intro k i h1 h2 h3
    obtain ⟨k, rfl⟩ : ∃ j, k = j + 1 := ⟨k - 1, by omega⟩
    simp only [prog_form.l0]
    rw [if_neg (by omega), show f.drop i = [] from List.drop_eq_nil_of_le (by omega), forms_nil]
  | succ d ih =>
    intro k i h1 h2 h3
    obtain ⟨k, rfl⟩ : ∃ j, k = j + 1 + 1 := ⟨k - 2, by omega⟩
    have hlt : i < f.length := by omega
    have hll : i < l.length := by omega
    have e1 : wrap64 ((i : Int) + 1) = ((i + 1 : Nat) : Int) := by rw [wrap_id (by omega) (by omega)]; rfl
    have hgo := ih k (i + 1) (by omega) (by omega) (by omega)
    have c1 : (i : Int) < (f.length : Int) := by omega
    have c2 : (0 : Int) ≤ (i : Int) := by omega
    have c3 : (i : Int) < (l.length : Int) := by omega
    simp only [prog_form.l0, prog_form.j1, if_pos c1, if_pos c2, if_pos c3, e1, rdTok_at l i hll, rdS_get f i hlt]
    rw [List.drop_eq_getElem_cons hll, List.drop_eq_getElem_cons hlt, formsL]
    generalize l[i] = t
    generalize f[i] = w
    rw [hgo]
    generalize formsL (l.drop (i + 1)) (f.drop (i + 1)) = r
    unfold okTok
    simp only [ByteArray.toList_eq]
    have n1 : kName.data.toList = [110, 97, 109, 101] := rfl
    have n2 : kNumber.data.toList = [110, 117, 109, 98, 101, 114] := rfl
    rw [n1, n2]
    by_cases h4 : w.data.toList = [110, 97, 109, 101]
    · simp only [if_pos h4]
      by_cases h5 : t.f0 = 1 <;> simp [h5]
    · simp only [if_neg h4]
      by_cases h5 : w.data.toList = [110, 117, 109, 98, 101, 114]
      · simp only [if_pos h5]
        by_cases h6 : t.f0 = 2 <;> simp [h6]
      · simp only [if_neg h5]
        by_cases h6 : t.f0 ≥ 3
        · have h6' : 3 ≤ t.f0 := h6
          by_cases h7 : t.f1.data.toList = w.data.toList
          · have hb : (t.f1.data.toList == w.data.toList) = true := by rw [h7]; exact beq_self_eq_true _
            simp only [if_pos h6, hb, decide_eq_true h6', if_true, Bool.true_and]
          · have hb : (t.f1.data.toList == w.data.toList) = false := beq_eq_false_iff_ne.2 h7
            simp only [if_pos h6, hb, decide_eq_true h6', Bool.false_eq_true, if_false, Bool.true_and, Bool.false_and]
        · have h6' : ¬ 3 ≤ t.f0 := h6
          simp [h6, h6']
theorem form_eq (l : List TokT) (f : List ByteArray) (hl : l.length ≤ 1099511627776) : prog_form.f (2 * f.length + 1) l f = some (formsL l f) := by
  unfold prog_form.f
  by_cases h : l.length < f.length
  · rw [if_pos (by omega)]
    cases hb : formsL l f with
    | false => rfl
    | true => have := forms_len l f hb; omega
  · rw [if_neg (by omega)]
    have := form_loop l f hl (by omega) f.length (2 * f.length + 1) 0 (by omega) (by omega) (by omega)
    simpa using this
theorem word_eq2 (s : ByteArray) (hs : s.size ≤ 9223372036854775806) (k : Nat) (hk : s.size < k) : prog_word.f k s = some (wordB s) := by
  unfold prog_word.f wordB
  have h := name_eq s.data.toList (by rw [← size_len]; exact hs) k (by rw [← size_len]; exact hk)
  rw [B_of] at h
  rw [h, Option.bind_some]
  cases nameL s.data.toList with
  | false => rfl
  | true => rw [if_pos rfl]; rfl
theorem wrongD_eq (d : Dl) (h0 : d.f0.size ≤ 9223372036854775806) (h1 : d.f1.size ≤ 9223372036854775806) (k : Nat) (hk : d.f0.size < k) (hk1 : d.f1.size < k) : prog_Decl_wrong.f k d.f0 d.f1 d.f2 = some (wrongD d) := by
  unfold prog_Decl_wrong.f wrongD
  rw [word_eq2 d.f0 h0 k hk, Option.bind_some]
  cases wordB d.f0 with
  | false => rfl
  | true =>
    rw [if_pos rfl, word_eq2 d.f1 h1 k hk1, Option.bind_some]
    cases wordB d.f1 with
    | false => rfl
    | true =>
      rw [if_pos rfl]
      by_cases h : d.f2 < 0
      · rw [if_pos h]; simp [h]
      · rw [if_neg h]; simp [h]
theorem idx_loop (l : List TokT) (hl : l.length ≤ 1099511627776) (d : Nat) : ∀ (k i : Nat), i ≤ l.length → l.length - i = d → d + 1 ≤ k →
    lex_Tok_114.l0 k l (l.length : Int) (i : Int) 4 ⟨#[46]⟩ 0 = some (if (l.drop i).any isEnd = true then ((i + (l.drop i).findIdx isEnd : Nat) : Int) else -1) := by
  induction d with
  | zero =>
    intro k i h1 h2 h3
    obtain ⟨k, rfl⟩ : ∃ j, k = j + 1 := ⟨k - 1, by omega⟩
    simp only [lex_Tok_114.l0]
    rw [if_neg (by omega), List.drop_of_length_le (by omega)]; rfl
  | succ d ih =>
    intro k i h1 h2 h3
    obtain ⟨k, rfl⟩ : ∃ j, k = j + 1 := ⟨k - 1, by omega⟩
    have hlt : i < l.length := by omega
    have e1 : wrap64 ((i : Int) + 1) = ((i + 1 : Nat) : Int) := by rw [wrap_id (by omega) (by omega)]; rfl
    have hgo := ih k (i + 1) (by omega) (by omega) (by omega)
    simp only [lex_Tok_114.l0]
    rw [if_pos (by omega), if_pos (by omega), if_pos (by omega), rdTok_at l i hlt, e1, hgo, List.drop_eq_getElem_cons hlt, List.any_cons, List.findIdx_cons]
    generalize l[i] = t
    have he : ((4 : Int) == t.f0 && ((⟨#[46]⟩ : ByteArray).toList == t.f1.toList && (0 : Int) == t.f2)) = isEnd t := by
      unfold isEnd
      rw [ByteArray.toList_eq, ByteArray.toList_eq, show mEnd = ⟨#[46]⟩ from rfl]
      rw [Bool.eq_iff_iff]
      simp only [Bool.and_eq_true, beq_iff_eq]
      constructor
      · rintro ⟨h1, h2, h3⟩; exact ⟨h1.symm, h2.symm, h3.symm⟩
      · rintro ⟨h1, h2, h3⟩; exact ⟨h1.symm, h2.symm, h3.symm⟩
    rw [he]
    cases isEnd t with
    | true => simp
    | false =>
      simp only [Bool.false_or, Bool.false_eq_true, if_false, cond_false]
      split
      · congr 1; omega
      · rfl
theorem pieces_no : ∀ l : List TokT, l.any isEnd = false → piecesL l = [l]
  | [], _ => rfl
  | t :: l, h => by
    rw [List.any_cons, Bool.or_eq_false_iff] at h
    rw [piecesL, if_neg (by rw [h.1]; decide), pieces_no l h.2]; rfl
theorem pieces_ne (l : List TokT) : piecesL l ≠ [] := by
  cases l with
  | nil => simp [piecesL]
  | cons t l => rw [piecesL]; split <;> simp
theorem pieces_at : ∀ l : List TokT, l.any isEnd = true → piecesL l = l.take (l.findIdx isEnd) :: piecesL (l.drop (l.findIdx isEnd + 1)) ∧ l.findIdx isEnd < l.length
  | [], h => by simp at h
  | t :: l, h => by
    rw [piecesL, List.findIdx_cons]
    cases ht : isEnd t with
    | true => simp
    | false =>
      rw [List.any_cons, ht, Bool.false_or] at h
      obtain ⟨h1, h2⟩ := pieces_at l h
      simp only [Bool.false_eq_true, if_false, cond_false]
      rw [h1]
      exact ⟨by simp, by simp only [List.length_cons]; omega⟩
theorem pieces_len (l : List TokT) : (piecesL l).length ≤ l.length + 1 := by
  induction l with
  | nil => simp [piecesL]
  | cons t l ih =>
    rw [piecesL]
    split
    · simp; omega
    · simp only [List.length_cons, List.length_tail]; omega
theorem pieces_loop (n : Nat) : ∀ (k : Nat) (l : List TokT) (acc : List (List TokT)), l.length ≤ n → n ≤ 1099511627776 → 2 * n + 2 ≤ k → acc.length + l.length ≤ 1099511627776 →
    prog_pieces.l0 k l acc = some (acc ++ piecesL l) := by
  induction n with
  | zero =>
    intro k l acc h1 h2 h3 h4
    obtain ⟨k, rfl⟩ : ∃ j, k = j + 1 := ⟨k - 1, by omega⟩
    obtain rfl : l = [] := List.length_eq_zero_iff.1 (by omega)
    have hi := idx_loop [] (by decide) 0 k 0 (by simp) (by simp) (by omega)
    simp only [prog_pieces.l0, lex_Tok_114.f]
    rw [show (([] : List TokT).length : Int) = 0 from rfl] at hi ⊢
    rw [show ((0 : Nat) : Int) = 0 from rfl] at hi
    rw [hi]
    simp only [List.drop_nil, List.any_nil, Bool.false_eq_true, if_false, Option.bind_some]
    rw [if_pos (by omega), if_pos (by omega)]; rfl
  | succ n ih =>
    intro k l acc h1 h2 h3 h4
    obtain ⟨k, rfl⟩ : ∃ j, k = j + 1 := ⟨k - 1, by omega⟩
    have hi := idx_loop l (by omega) l.length k 0 (by omega) (by omega) (by omega)
    rw [show ((0 : Nat) : Int) = 0 from rfl, List.drop_zero, Nat.zero_add] at hi
    simp only [prog_pieces.l0, lex_Tok_114.f]
    rw [hi, Option.bind_some]
    cases ha : l.any isEnd with
    | false =>
      simp only [Bool.false_eq_true, if_false]
      rw [if_pos (by omega), if_pos (by omega), pieces_no l ha]
    | true =>
      obtain ⟨hp, hlt⟩ := pieces_at l ha
      simp only [if_true]
      generalize l.findIdx isEnd = i at *
      have e1 : wrap64 ((i : Int) + 1) = ((i + 1 : Nat) : Int) := by rw [wrap_id (by omega) (by omega)]; rfl
      rw [e1, if_neg (by omega), if_pos (by omega), if_pos (by omega), if_pos (by omega), if_pos (by omega), if_pos (by omega), Int.toNat_natCast, Int.toNat_natCast, hp]
      rw [ih k (l.drop (i + 1)) _ (by rw [List.length_drop]; omega) (by omega) (by omega) (by rw [List.length_drop, List.length_append]; simp; omega)]
      simp
theorem pieces_eq (l : List TokT) (hl : l.length ≤ 549755813888) : prog_pieces.f (2 * l.length + 2) l = some (piecesL l) := by
  unfold prog_pieces.f
  have := pieces_loop l.length (2 * l.length + 2) l [] (by omega) (by omega) (by omega) (by simp; omega)
  simpa using this
theorem sizesF_mem {l : List Df} {d : Df} (h : d ∈ l) : sizeT d.f1 ≤ sizesF l := by
  induction l with
  | nil => cases h
  | cons x r ih =>
    rw [sizesF]
    rcases List.mem_cons.1 h with rfl | h
    · omega
    · have := ih h; omega
theorem sizesF_len (l : List Df) : l.length ≤ sizesF l := by
  induction l with
  | nil => simp
  | cons x r ih => have := size_pos x.f1; rw [sizesF, List.length_cons]; omega
theorem rdDf_at (l : List Df) (i : Nat) (h : i < l.length) : rd_T89 l (i : Int) = l[i] := by
  unfold rd_T89; simp [List.getD_eq_getElem?_getD, List.getElem?_eq_getElem h]
theorem rdDl_at (l : List Dl) (i : Nat) (h : i < l.length) : rd_T87 l (i : Int) = l[i] := by
  unfold rd_T87; simp [List.getD_eq_getElem?_getD, List.getElem?_eq_getElem h]
theorem sizeP_loop (l : List Df) (hl : sizesF l ≤ 9223372036854775806) (K : Nat) (d : Nat) : ∀ (k i : Nat) (a : Nat), i ≤ l.length → l.length - i = d → 2 * sizesF l + d + 1 ≤ k → a + sizesF (l.drop i) ≤ 9223372036854775807 →
    prog_Size.l0 k (a : Int) l (l.length : Int) (i : Int) = some ((a + sizesF (l.drop i) : Nat) : Int) := by
  have hlen := sizesF_len l
  induction d with
  | zero =>
    intro k i a h1 h2 h3 h4
    obtain ⟨k, rfl⟩ : ∃ j, k = j + 1 := ⟨k - 1, by omega⟩
    simp only [prog_Size.l0]
    rw [if_neg (by omega), List.drop_of_length_le (by omega)]
    rfl
  | succ d ihd =>
    intro k i a h1 h2 h3 h4
    obtain ⟨k, rfl⟩ : ∃ j, k = j + 1 := ⟨k - 1, by omega⟩
    have hlt : i < l.length := by omega
    have hd := List.drop_eq_getElem_cons hlt
    rw [hd, sizesF] at h4 ⊢
    have hm := sizesF_mem (List.getElem_mem hlt)
    simp only [prog_Size.l0]
    rw [if_pos (by omega), if_pos (by omega), if_pos (by omega), rdDf_at l i hlt, size_eq (l[i]'hlt).f1 (by omega) k (by omega)]
    simp only [Option.bind_some]
    have e1 : wrap64 ((i : Int) + 1) = ((i + 1 : Nat) : Int) := by rw [wrap_id (by omega) (by omega)]; rfl
    have e2 : wrap64 ((a : Int) + (sizeT (l[i]'hlt).f1 : Int)) = ((a + sizeT (l[i]'hlt).f1 : Nat) : Int) := by rw [wrap_id (by omega) (by omega)]; rfl
    rw [e1, e2]
    clear e1 e2
    rw [ihd k (i + 1) (a + sizeT (l[i]'hlt).f1) (by omega) (by omega) (by omega) (by omega), Nat.add_assoc]
theorem sizeP_eq (p : Prg) (h : sizeP p ≤ 9223372036854775806) : prog_Size.f (2 * sizeP p + p.f2.length + 1) p.f0 p.f1 p.f2 p.f3.f0 p.f3.f1 p.f3.f2 p.f3.f3 = some (sizeP p : Int) := by
  unfold sizeP at h ⊢
  unfold prog_Size.f
  rw [size_eq p.f3 (by omega) _ (by omega), Option.bind_some]
  have := sizeP_loop p.f2 (by omega) 0 p.f2.length (2 * (sizeT p.f3 + sizesF p.f2) + p.f2.length + 1) 0 (sizeT p.f3) (by omega) (by omega) (by omega) (by rw [List.drop_zero]; omega)
  rw [List.drop_zero] at this
  exact this
end Go.Proofs.YtchekgnacodolaaGreatDoor.X
end
section
namespace Go.Proofs.YtchekgnacodolaaGreatDoor.X
set_option linter.unusedSimpArgs false
set_option linter.unusedVariables false
def ReadsAs (l : List TokT) (t : Tm) : Prop := ∀ s, Stops s → isL s mSeq = false → Reads_ .all (l ++ s) (some (t, s))
theorem ReadsAs.part {l : List TokT} {t : Tm} (h : ReadsAs l t) (s : List TokT) : Reads_ .part (markTok mOpen :: l ++ markTok mClose :: s) (some (t, s)) := by
  rw [List.cons_append]
  exact part_paren (h (markTok mClose :: s) (stops_mark (by simp [stopWords]) _) (by rw [isL_mark]; decide)) (by rw [isL_mark]; decide)
theorem ReadsAs.parse {l : List TokT} {t : Tm} (h : ReadsAs l t) : parseL l = some (t, []) := by
  have := (h [] Stops.nil (isL_nil _)).parse
  rwa [List.append_nil] at this
theorem ReadsAs.seq {l m : List TokT} {t u : Tm} (h : ReadsAs l t) (k : ReadsAs m u) : ReadsAs (markTok mOpen :: l ++ [markTok mClose] ++ markTok mSeq :: m) (tm 13 noName [t, u]) := by
  intro s hs hq
  have e : markTok mOpen :: l ++ [markTok mClose] ++ markTok mSeq :: m ++ s = markTok mOpen :: l ++ markTok mClose :: (markTok mSeq :: (m ++ s)) := by simp
  rw [e]
  refine Ev.step (Ev.then_ (one_part (.mark _) (h.part (markTok mSeq :: (m ++ s))) (stops_mark (by simp [stopWords]) _)) (Ev.pos (by rw [isL_mark]; decide) (Ev.then_ (k s hs hq) (Ev.now _))))
end Go.Proofs.YtchekgnacodolaaGreatDoor.X
end

-- Joined by our own program (wip/tools/prune.py) out of the seat's texts, less what this claim doesn't name.
import Derived.Lib.ItoaNum
import Derived.Lib.ItoaMem
import Derived.Test.YtchekgnacodolaaDoorJ7
import Derived.Test.YtchekgnacodolaaDoorJ13
section
namespace Go.Proofs.YtchekgnacodolaaDoor.X
open Go.RowKit Go.Proofs.YtchekgnacodolaaDoorW.PrintWords
set_option linter.unusedSimpArgs false
set_option linter.unusedVariables false
def valD (acc : Nat) : List UInt8 → Nat
  | [] => acc
  | c :: r => valD (acc * 10 + (c.toNat - 48)) r
theorem valD_snoc (l : List UInt8) : ∀ (acc : Nat) (c : UInt8), valD acc (l ++ [c]) = valD acc l * 10 + (c.toNat - 48) := by
  induction l with
  | nil => intro acc c; rfl
  | cons b l ih => intro acc c; exact ih _ c
theorem valD_le (l : List UInt8) : ∀ acc, acc ≤ valD acc l := by
  induction l with
  | nil => intro acc; exact Nat.le_refl _
  | cons b l ih => intro acc; exact Nat.le_trans (by omega) (ih _)
theorem dec_val (n : Nat) : valD 0 (Lib.decDigits n) = n := by
  induction n using Nat.strongRecOn with
  | ind n ih =>
    rw [Lib.decDigits]
    split
    · rename_i h
      show (0 * 10 + ((UInt8.ofNat (48 + n)).toNat - 48)) = n
      rw [UInt8.toNat_ofNat']; omega
    · rename_i h
      rw [valD_snoc, ih (n / 10) (by omega), UInt8.toNat_ofNat']; omega
theorem dec_F (v : Nat) (h : v < 10000000000) : Lib.decDigits v = decF 10 v := (decF_eq 10 v (by omega) (by omega)).symm
theorem decF_len : ∀ k n, (decF k n).length ≤ k
  | 0, _ => by simp [decF]
  | k + 1, n => by
    unfold decF
    split
    · simp
    · have := decF_len k (n / 10)
      simp; omega
theorem uintM_ok (M : Nat) (hM : M ≤ 4294967295) : ∀ (l : List UInt8) (acc : Nat), l.all isDig = true → valD acc l ≤ M → Lib.parseUintM M acc l = .ok (valD acc l)
  | [], _, _, _ => rfl
  | c :: l, acc, h, hv => by
    simp only [List.all_cons, Bool.and_eq_true] at h
    have hc : 48 ≤ c.toNat ∧ c.toNat ≤ 57 := by simpa [isDig] using h.1
    have hle := valD_le l (acc * 10 + (c.toNat - 48))
    have hv' : valD (acc * 10 + (c.toNat - 48)) l ≤ M := hv
    rw [Lib.parseUintM, if_pos hc, if_neg (by omega), if_neg (by omega), uintM_ok M hM l _ h.2 hv']; rfl
theorem parse_dec (v : Nat) (h : v < 2147483648) : Lib.parseIntB 32 (Lib.decDigits v) = .ok (v : Int) := by
  have hF := dec_F v (by omega)
  have hd : (Lib.decDigits v).all isDig = true := by rw [hF]; exact decF_dig _ _
  have hne : Lib.decDigits v ≠ [] := by rw [hF]; exact decF_ne _ _
  have hv := dec_val v
  cases hl : Lib.decDigits v with
  | nil => exact absurd hl hne
  | cons c r =>
    rw [hl] at hd hv
    have hd' := hd
    simp only [List.all_cons, Bool.and_eq_true] at hd'
    have hc : 48 ≤ c.toNat ∧ c.toNat ≤ 57 := by simpa [isDig] using hd'.1
    unfold Lib.parseIntB
    simp only
    rw [if_neg (by omega)]
    unfold Lib.parseUintB
    rw [if_neg (by simp), uintM_ok _ (by decide) _ _ hd (by rw [hv]; exact Nat.le_trans (Nat.le_of_lt h) (by decide)), hv]
    have h31 : (2 : Nat) ^ (32 - 1) = 2147483648 := by decide
    simp only [h31]
    rw [if_neg (by omega), if_neg (by omega), if_neg (by omega)]
theorem num_dec (v : Nat) (h : v < 2147483648) : numOf (B (Lib.decDigits v)) = ((v : Int), true) := by
  unfold numOf
  rw [B_list, parse_dec v h]
  have : itoaF (v : Int) = Lib.decDigits v := by
    unfold itoaF
    rw [if_neg (by omega), decF_eq 20 _ (by omega) (by omega)]; rfl
  simp [this]
theorem num_iff (d : List UInt8) : ((numOf (B d)).2 = true ∧ 0 ≤ (numOf (B d)).1) ↔ ∃ v : Nat, v < 2147483648 ∧ d = Lib.decDigits v := by
  constructor
  · rintro ⟨h, h0⟩
    unfold numOf at h h0
    cases hp : Lib.parseIntB 32 (B d).data.toList with
    | ok v =>
      rw [hp] at h h0
      simp only at h h0
      have e : itoaF v = d := by simpa [B_list] using h
      have hb := Lib.parseIntB_bounds hp
      have h31 : ((2 : Nat) ^ (32 - 1) : Nat) = 2147483648 := by decide
      rw [h31] at hb
      unfold itoaF at e
      rw [if_neg (by omega), decF_eq 20 _ (by omega) (by omega)] at e
      exact ⟨v.toNat, by omega, e.symm⟩
    | _ => rw [hp] at h; cases h
  · rintro ⟨v, h, rfl⟩
    rw [num_dec v h]
    exact ⟨rfl, by simp⟩
end Go.Proofs.YtchekgnacodolaaDoor.X
end
section
namespace Go.Proofs.YtchekgnacodolaaDoor.X
set_option linter.unusedSimpArgs false
set_option linter.unusedVariables false
def wordB (nm : ByteArray) : Bool := nameL nm.data.toList && !isKey nm
def kidsOf : Int → Int
  | 1 => 0 | 2 => 0 | 3 => 1 | 4 => 2 | 5 => 2 | 6 => 3 | 7 => 2 | 8 => 1 | 9 => 2 | 10 => 1 | 11 => 2 | 12 => 2 | 13 => 2
  | _ => -1
def binderK (k : Int) : Bool := k == 3 || (k == 5 || k == 9)
def nodeB (k : Int) (nm : ByteArray) (n : Int) (c : Int) : Bool :=
  decide (1 ≤ k) && decide (k < 14) && decide (c = kidsOf k) && decide (0 ≤ n) && decide (n < 2147483648) && (decide (k = 1) || decide (n = 0)) &&
    (if binderK k = true ∨ k = 2 then wordB nm else if k = 12 then opWords.any (fun o => o.data.toList == nm.data.toList) else nm.data.toList == [])
mutual
def nodesT : Tm → Bool
  | ⟨k, nm, n, kids⟩ => nodeB k nm n kids.length && nodessT kids
def nodessT : List Tm → Bool
  | [] => true
  | t :: r => nodesT t && nodessT r
end
def rightTm (t : Tm) : Bool := decide (depthT t ≤ 200) && decide (sizeT t ≤ 10000) && nodesT t
theorem nodessT_mem : ∀ {l : List Tm}, nodessT l = true → ∀ t ∈ l, nodesT t = true
  | [], _, _, h => by cases h
  | x :: r, h, t, hm => by
    rw [nodessT, Bool.and_eq_true] at h
    rcases List.mem_cons.1 hm with rfl | h1
    · exact h.1
    · exact nodessT_mem h.2 t h1
def keyTok (w : ByteArray) : TokT := ⟨3, w, 0⟩
def markTok (m : ByteArray) : TokT := ⟨4, m, 0⟩
def nameTok (n : ByteArray) : TokT := ⟨1, n, 0⟩
def numTok (n : Int) : TokT := ⟨2, B (itoaF n), n⟩
def withinT (k : Int) (ts : List TokT) : List TokT := if k = 1 ∨ k = 2 then ts else markTok mOpen :: ts ++ [markTok mClose]
def layT (k : Int) (nm : ByteArray) (n : Int) (w : List (List TokT)) : List TokT :=
  let w0 := w.getD 0 []; let w1 := w.getD 1 []; let w2 := w.getD 2 []
  if k = 1 then [numTok n]
  else if k = 2 then [nameTok nm]
  else if k = 3 then keyTok kFun :: nameTok nm :: markTok mArrow :: w0
  else if k = 4 then w0 ++ w1
  else if k = 5 then keyTok kLet :: nameTok nm :: markTok mEq :: (w0 ++ keyTok kIn :: w1)
  else if k = 6 then keyTok kIf :: (w0 ++ keyTok kThen :: (w1 ++ keyTok kElse :: w2))
  else if k = 7 then keyTok kWhile :: (w0 ++ keyTok kDo :: w1)
  else if k = 8 then keyTok kRaise :: w0
  else if k = 9 then keyTok kTry :: (w0 ++ keyTok kWith :: nameTok nm :: markTok mArrow :: w1)
  else if k = 10 then markTok mGet :: w0
  else if k = 11 then w0 ++ markTok mSet :: w1
  else if k = 12 then w0 ++ markTok nm :: w1
  else w0 ++ markTok mSeq :: w1
mutual
def toksT : Tm → List TokT
  | ⟨k, nm, n, kids⟩ => layT k nm n (withinsT kids)
def withinsT : List Tm → List (List TokT)
  | [] => []
  | t :: r => withinT t.f0 (toksT t) :: withinsT r
end
def inT (t : Tm) : List TokT := withinT t.f0 (toksT t)
def Ev (f : Nat → PR) (r : Option (Tm × List TokT)) : Prop := ∃ K, ∀ k, K ≤ k → f k = some r
theorem Ev.step {m : Mode} {s : List TokT} {r : Option (Tm × List TokT)} (h : Ev (fun k => run (k + 1) m s) r) : Ev (fun k => run k m s) r := by
  obtain ⟨K, h⟩ := h
  refine ⟨K + 1, fun k hk => ?_⟩
  obtain ⟨j, rfl⟩ : ∃ j, k = j + 1 := ⟨k - 1, by omega⟩
  exact h j (by omega)
theorem Ev.now (r : Option (Tm × List TokT)) : Ev (fun _ => some r) r := ⟨0, fun _ _ => rfl⟩
theorem Ev.then_ {f : Nat → PR} {g : Nat → Tm → List TokT → PR} {t : Tm} {s : List TokT} {r : Option (Tm × List TokT)} (h : Ev f (some (t, s))) (hg : Ev (fun k => g k t s) r) : Ev (fun k => (f k).then_ (g k)) r := by
  obtain ⟨K, h⟩ := h
  obtain ⟨K', h'⟩ := hg
  refine ⟨max K K', fun k hk => ?_⟩
  simp only [h k (by omega)]
  exact h' k (by omega)
theorem Ev.fail {f : Nat → PR} {g : Nat → Tm → List TokT → PR} (h : Ev f none) : Ev (fun k => (f k).then_ (g k)) none := by
  obtain ⟨K, h⟩ := h
  refine ⟨K, fun k hk => ?_⟩
  simp only [h k hk]; rfl
theorem Ev.key {f : Nat → PR} {g : Nat → Tm → List TokT → PR} {m : ByteArray} {t : Tm} {s : List TokT} {r : Option (Tm × List TokT)} (h : Ev f (some (t, s))) (hm : isL s m = true) (hg : Ev (fun k => g k t s.tail) r) : Ev (fun k => (f k).key m (g k)) r :=
  h.then_ (by simp only [if_pos hm]; exact hg)
theorem Ev.name {g : Nat → ByteArray → List TokT → PR} {m : ByteArray} {s : List TokT} {nm : ByteArray} {q : List TokT} {r : Option (Tm × List TokT)} (hb : boundL s m = some (nm, q)) (hg : Ev (fun k => g k nm q) r) : Ev (fun k => PR.name (boundL s m) (g k)) r := by
  rw [hb]; exact hg
theorem Ev.pos {c : Prop} [Decidable c] {f g : Nat → PR} {r : Option (Tm × List TokT)} (hc : c) (h : Ev f r) : Ev (fun k => if c then f k else g k) r := by simp only [if_pos hc]; exact h
theorem Ev.neg {c : Prop} [Decidable c] {f g : Nat → PR} {r : Option (Tm × List TokT)} (hc : ¬ c) (h : Ev g r) : Ev (fun k => if c then f k else g k) r := by simp only [if_neg hc]; exact h
theorem isL_cons (x : TokT) (r : List TokT) (m : ByteArray) : isL (x :: r) m = (decide (3 ≤ x.f0) && (x.f1.data.toList == m.data.toList)) := rfl
theorem isL_key (w : ByteArray) (r : List TokT) (m : ByteArray) : isL (keyTok w :: r) m = (w.data.toList == m.data.toList) := by simp [isL_cons, keyTok]
theorem isL_mark (w : ByteArray) (r : List TokT) (m : ByteArray) : isL (markTok w :: r) m = (w.data.toList == m.data.toList) := by simp [isL_cons, markTok]
theorem isL_low {x : TokT} (h : x.f0 = 1 ∨ x.f0 = 2) (r : List TokT) (m : ByteArray) : isL (x :: r) m = false := by
  rw [isL_cons, decide_eq_false (by omega), Bool.false_and]
structure Stops (s : List TokT) : Prop where
  b : beginsL s = false
  set : isL s mSet = false
  ops : opWords.find? (isL s) = none
inductive HeadT : List TokT → Prop
  | low (x : TokT) (r : List TokT) (h : x.f0 = 1 ∨ x.f0 = 2) : HeadT (x :: r)
  | mark (r : List TokT) : HeadT (markTok mOpen :: r)
  | get (r : List TokT) : HeadT (markTok mGet :: r)
theorem HeadT.append {w : List TokT} (h : HeadT w) (s : List TokT) : HeadT (w ++ s) := by
  cases h with
  | low x r h => exact .low x (r ++ s) h
  | mark r => exact .mark (r ++ s)
  | get r => exact .get (r ++ s)
theorem HeadT.begins {w : List TokT} (h : HeadT w) : beginsL w = true := by
  cases h with
  | low x r h =>
    have : (peekL (x :: r)).f0 = x.f0 := rfl
    rcases h with h | h <;> simp [beginsL, this, h]
  | mark r => simp [beginsL, isL_mark, mOpen]
  | get r => simp [beginsL, isL_mark, mGet]
def keyHeads : List ByteArray := [kFun, kLet, kIf, kWhile, kRaise, kTry]
theorem HeadT.nokey {w : List TokT} (h : HeadT w) {m : ByteArray} (hm : m ∈ keyHeads) : ¬ isL w m = true := by
  have key : keyHeads.all (fun m => !(mOpen.data.toList == m.data.toList) && !(mGet.data.toList == m.data.toList)) = true := by decide +kernel
  have := List.all_eq_true.1 key m hm
  simp only [Bool.and_eq_true, Bool.not_eq_true'] at this
  cases h with
  | low x r h => rw [isL_low h]; decide
  | mark r => rw [isL_mark, this.1]; decide
  | get r => rw [isL_mark, this.2]; decide
abbrev Reads_ (m : Mode) (s : List TokT) (r : Option (Tm × List TokT)) : Prop := Ev (fun k => run k m s) r
theorem parts_of {w : List TokT} {t : Tm} {s : List TokT} (h : Reads_ .part w (some (t, s))) (hs : beginsL s = false) : Reads_ .parts w (some (t, s)) :=
  Ev.step (Ev.then_ h (Ev.step (Ev.neg (by rw [hs]; decide) (Ev.now _))))
theorem plain_of {w : List TokT} {t : Tm} {s : List TokT} (h : Reads_ .parts w (some (t, s))) (hs : Stops s) : Reads_ .plain w (some (t, s)) :=
  Ev.step (Ev.then_ h (Ev.neg (by rw [hs.set]; decide) (by rw [hs.ops]; exact Ev.now _)))
theorem one_of {w : List TokT} {r : Option (Tm × List TokT)} (hw : HeadT w) (h : Reads_ .plain w r) : Reads_ .one w r :=
  Ev.step (Ev.neg (hw.nokey (by simp [keyHeads])) (Ev.neg (hw.nokey (by simp [keyHeads])) (Ev.neg (hw.nokey (by simp [keyHeads])) (Ev.neg (hw.nokey (by simp [keyHeads])) (Ev.neg (hw.nokey (by simp [keyHeads])) (Ev.neg (hw.nokey (by simp [keyHeads])) h))))))
theorem all_of {w : List TokT} {t : Tm} {s : List TokT} (h : Reads_ .one w (some (t, s))) (hs : isL s mSeq = false) : Reads_ .all w (some (t, s)) :=
  Ev.step (Ev.then_ h (Ev.neg (by rw [hs]; decide) (Ev.now _)))
theorem one_part {w : List TokT} {t : Tm} {s : List TokT} (hw : HeadT w) (h : Reads_ .part w (some (t, s))) (hs : Stops s) : Reads_ .one w (some (t, s)) :=
  one_of hw (plain_of (parts_of h hs.b) hs)
theorem all_part {w : List TokT} {t : Tm} {s : List TokT} (hw : HeadT w) (h : Reads_ .part w (some (t, s))) (hs : Stops s) (hq : isL s mSeq = false) : Reads_ .all w (some (t, s)) :=
  all_of (one_part hw h hs) hq
theorem begins_key (w : ByteArray) (r : List TokT) (h1 : (w.data.toList == [40]) = false) (h2 : (w.data.toList == [33]) = false) : beginsL (keyTok w :: r) = false := by
  unfold beginsL
  rw [isL_key, isL_key, show (⟨#[40]⟩ : ByteArray).data.toList = [40] from rfl, show (⟨#[33]⟩ : ByteArray).data.toList = [33] from rfl, h1, h2]
  simp [peekL, keyTok]
theorem begins_mark (w : ByteArray) (r : List TokT) (h1 : (w.data.toList == [40]) = false) (h2 : (w.data.toList == [33]) = false) : beginsL (markTok w :: r) = false := by
  unfold beginsL
  rw [isL_mark, isL_mark, show (⟨#[40]⟩ : ByteArray).data.toList = [40] from rfl, show (⟨#[33]⟩ : ByteArray).data.toList = [33] from rfl, h1, h2]
  simp [peekL, markTok]
theorem find_none {s : List TokT} (h : ∀ o ∈ opWords, isL s o = false) : opWords.find? (isL s) = none := List.find?_eq_none.2 fun o ho => by rw [h o ho]; decide
theorem Stops.nil : Stops [] := ⟨beginsL_nil, isL_nil _, find_none fun o _ => isL_nil o⟩
theorem stops_of_list (ws : List ByteArray) (h : ws.all (fun w => !(w.data.toList == [40]) && !(w.data.toList == [33]) && !(w.data.toList == mSet.data.toList) && opWords.all fun o => !(w.data.toList == o.data.toList)) = true) (w : ByteArray) (hw : w ∈ ws) :
    (∀ r, Stops (keyTok w :: r)) ∧ ∀ r, Stops (markTok w :: r) := by
  have := List.all_eq_true.1 h w hw
  simp only [Bool.and_eq_true, Bool.not_eq_true', List.all_eq_true] at this
  obtain ⟨⟨⟨h1, h2⟩, h3⟩, h4⟩ := this
  exact ⟨fun r => ⟨begins_key w r h1 h2, by rw [isL_key, h3], find_none fun o ho => by rw [isL_key, h4 o ho]⟩, fun r => ⟨begins_mark w r h1 h2, by rw [isL_mark, h3], find_none fun o ho => by rw [isL_mark, h4 o ho]⟩⟩
def stopWords : List ByteArray := [kIn, kThen, kElse, kDo, kWith, mClose, mSeq]
theorem stops_key {w : ByteArray} (hw : w ∈ stopWords) (r : List TokT) : Stops (keyTok w :: r) := (stops_of_list stopWords (by decide +kernel) w hw).1 r
theorem stops_mark {w : ByteArray} (hw : w ∈ stopWords) (r : List TokT) : Stops (markTok w :: r) := (stops_of_list stopWords (by decide +kernel) w hw).2 r
theorem part_low {x : TokT} (r : List TokT) (h : x.f0 = 1 ∨ x.f0 = 2) : Reads_ .part (x :: r) (some (if x.f0 = 1 then tm 2 x.f1 [] else ⟨1, noName, x.f2, []⟩, r)) := by
  refine Ev.step (Ev.neg (by rw [isL_low h]; decide) (Ev.neg (by rw [isL_low h]; decide) ?_))
  rcases h with h | h
  · rw [if_pos h]; exact Ev.pos h (Ev.now _)
  · have h1 : ¬ x.f0 = 1 := by rw [h]; decide
    rw [if_neg h1]; exact Ev.neg h1 (Ev.pos h (Ev.now _))
theorem part_paren {w : List TokT} {t : Tm} {s : List TokT} (h : Reads_ .all w (some (t, s))) (hs : isL s mClose = true) : Reads_ .part (markTok mOpen :: w) (some (t, s.tail)) :=
  Ev.step (Ev.neg (by rw [isL_mark]; decide) (Ev.pos (by rw [isL_mark]; decide) (Ev.key h hs (Ev.now _))))
theorem part_get {w : List TokT} {t : Tm} {s : List TokT} (h : Reads_ .part w (some (t, s))) : Reads_ .part (markTok mGet :: w) (some (tm 10 noName [t], s)) :=
  Ev.step (Ev.pos (by rw [isL_mark]; decide) (Ev.then_ h (Ev.now _)))
theorem bound_of (nm m : ByteArray) (r : List TokT) : boundL (nameTok nm :: markTok m :: r) m = some (nm, r) := by
  unfold boundL
  rw [if_pos (show (peekL (nameTok nm :: markTok m :: r)).f0 = 1 from rfl), if_pos (by rw [List.tail_cons, isL_mark]; simp)]; rfl
structure Back (t : Tm) : Prop where
  part : ∀ s, Reads_ .part (inT t ++ s) (some (t, s))
  head : HeadT (inT t)
  all : ∀ s, Stops s → isL s mSeq = false → Reads_ .all (toksT t ++ s) (some (t, s))
theorem kids_cases {l : List Tm} {k : Int} (h : (l.length : Int) = kidsOf k) (hk : 1 ≤ k ∧ k < 14) :
    (k = 1 ∧ l = []) ∨ (k = 2 ∧ l = []) ∨ ((k = 3 ∨ k = 8 ∨ k = 10) ∧ ∃ a, l = [a]) ∨ ((k = 4 ∨ k = 5 ∨ k = 7 ∨ k = 9 ∨ k = 11 ∨ k = 12 ∨ k = 13) ∧ ∃ a b, l = [a, b]) ∨ (k = 6 ∧ ∃ a b c, l = [a, b, c]) := by
  have h0 : ∀ (l : List Tm), (l.length : Int) = 0 → l = [] := fun l h => List.length_eq_zero_iff.1 (by omega)
  have h1 : ∀ (l : List Tm), (l.length : Int) = 1 → ∃ a, l = [a] := fun l h => List.length_eq_one_iff.1 (by omega)
  have h2 : ∀ (l : List Tm), (l.length : Int) = 2 → ∃ a b, l = [a, b] := fun l h => by
    match l, h with
    | [a, b], _ => exact ⟨a, b, rfl⟩
    | [], h => simp at h
    | [_], h => simp at h
    | _ :: _ :: _ :: _, h => simp only [List.length_cons] at h; omega
  have h3 : ∀ (l : List Tm), (l.length : Int) = 3 → ∃ a b c, l = [a, b, c] := fun l h => by
    match l, h with
    | [a, b, c], _ => exact ⟨a, b, c, rfl⟩
    | [], h => simp at h
    | [_], h => simp at h
    | [_, _], h => simp at h
    | _ :: _ :: _ :: _ :: _, h => simp only [List.length_cons] at h; omega
  have hc : k = 1 ∨ k = 2 ∨ k = 3 ∨ k = 4 ∨ k = 5 ∨ k = 6 ∨ k = 7 ∨ k = 8 ∨ k = 9 ∨ k = 10 ∨ k = 11 ∨ k = 12 ∨ k = 13 := by omega
  rcases hc with rfl | rfl | rfl | rfl | rfl | rfl | rfl | rfl | rfl | rfl | rfl | rfl | rfl <;> simp only [kidsOf] at h
  · exact .inl ⟨rfl, h0 l h⟩
  · exact .inr (.inl ⟨rfl, h0 l h⟩)
  · exact .inr (.inr (.inl ⟨.inl rfl, h1 l h⟩))
  · exact .inr (.inr (.inr (.inl ⟨.inl rfl, h2 l h⟩)))
  · exact .inr (.inr (.inr (.inl ⟨.inr (.inl rfl), h2 l h⟩)))
  · exact .inr (.inr (.inr (.inr ⟨rfl, h3 l h⟩)))
  · exact .inr (.inr (.inr (.inl ⟨.inr (.inr (.inl rfl)), h2 l h⟩)))
  · exact .inr (.inr (.inl ⟨.inr (.inl rfl), h1 l h⟩))
  · exact .inr (.inr (.inr (.inl ⟨.inr (.inr (.inr (.inl rfl))), h2 l h⟩)))
  · exact .inr (.inr (.inl ⟨.inr (.inr rfl), h1 l h⟩))
  · exact .inr (.inr (.inr (.inl ⟨.inr (.inr (.inr (.inr (.inl rfl)))), h2 l h⟩)))
  · exact .inr (.inr (.inr (.inl ⟨.inr (.inr (.inr (.inr (.inr (.inl rfl))))), h2 l h⟩)))
  · exact .inr (.inr (.inr (.inl ⟨.inr (.inr (.inr (.inr (.inr (.inr rfl))))), h2 l h⟩)))
structure NodeR (k : Int) (nm : ByteArray) (n : Int) (c : Int) : Prop where
  k1 : 1 ≤ k
  k2 : k < 14
  kids : c = kidsOf k
  n0 : 0 ≤ n
  n1 : n < 2147483648
  nz : k = 1 ∨ n = 0
  nm : if binderK k = true ∨ k = 2 then wordB nm = true else if k = 12 then nm ∈ opWords else nm = noName
theorem ba_eq {a b : ByteArray} (h : a.data.toList = b.data.toList) : a = b := by rw [← B_of a, ← B_of b, h]
theorem nodeB_iff (k : Int) (nm : ByteArray) (n : Int) (c : Int) : nodeB k nm n c = true ↔ NodeR k nm n c := by
  unfold nodeB
  simp only [Bool.and_eq_true, Bool.or_eq_true, decide_eq_true_eq]
  have hn : (if binderK k = true ∨ k = 2 then wordB nm else if k = 12 then opWords.any (fun o => o.data.toList == nm.data.toList) else nm.data.toList == []) = true ↔ (if binderK k = true ∨ k = 2 then wordB nm = true else if k = 12 then nm ∈ opWords else nm = noName) := by
    split
    · exact Iff.rfl
    · split
      · rw [List.any_eq_true]
        constructor
        · rintro ⟨o, ho, e⟩; rw [← ba_eq (eq_of_beq e)]; exact ho
        · exact fun h => ⟨nm, h, beq_self_eq_true _⟩
      · rw [beq_iff_eq]
        exact ⟨fun h => ba_eq h, fun h => by rw [h]⟩
  rw [hn]
  exact ⟨fun ⟨⟨⟨⟨⟨⟨a, b⟩, c⟩, d⟩, e⟩, f⟩, g⟩ => ⟨a, b, c, d, e, f, g⟩, fun ⟨a, b, c, d, e, f, g⟩ => ⟨⟨⟨⟨⟨⟨a, b⟩, c⟩, d⟩, e⟩, f⟩, g⟩⟩
theorem ops_find {o : ByteArray} (h : o ∈ opWords) (r : List TokT) : opWords.find? (isL (markTok o :: r)) = some o ∧ isL (markTok o :: r) mSet = false ∧ beginsL (markTok o :: r) = false := by
  have key : opWords.all (fun o => (opWords.find? (fun m => o.data.toList == m.data.toList)).map (fun m => m.data.toList) == some o.data.toList && !(o.data.toList == mSet.data.toList) && !(o.data.toList == [40]) && !(o.data.toList == [33])) = true := by decide +kernel
  have := List.all_eq_true.1 key o h
  simp only [Bool.and_eq_true, Bool.not_eq_true', beq_iff_eq] at this
  obtain ⟨⟨⟨h1, h2⟩, h3⟩, h4⟩ := this
  have hf : isL (markTok o :: r) = fun m => o.data.toList == m.data.toList := funext fun m => isL_mark o r m
  refine ⟨?_, by rw [isL_mark, h2], begins_mark o r h3 h4⟩
  rw [hf]
  rw [Option.map_eq_some_iff] at h1
  obtain ⟨m, hm, e⟩ := h1
  rw [hm, ba_eq e]
theorem back (t : Tm) : nodesT t = true → Back t := by
  induction t using Tm.ind with
  | h k nm n kids ih =>
    intro h
    rw [nodesT, Bool.and_eq_true] at h
    obtain ⟨h1, h2⟩ := h
    have hn := (nodeB_iff k nm n kids.length).1 h1
    have ihk : ∀ t ∈ kids, Back t := fun t ht => ih t ht (nodessT_mem h2 t ht)
    -- what holds for all: from 'all' and the head the rest
    have close : (∀ s, Stops s → isL s mSeq = false → Reads_ .all (toksT ⟨k, nm, n, kids⟩ ++ s) (some (⟨k, nm, n, kids⟩, s))) → ¬ (k = 1 ∨ k = 2) → Back ⟨k, nm, n, kids⟩ := by
      intro ha hk
      have e : inT ⟨k, nm, n, kids⟩ = markTok mOpen :: toksT ⟨k, nm, n, kids⟩ ++ [markTok mClose] := by
        unfold inT withinT
        rw [if_neg hk]
      refine ⟨fun s => ?_, by rw [e]; exact .mark _, ha⟩
      rw [e, List.append_assoc, List.cons_append]
      exact part_paren (ha ([markTok mClose] ++ s) (stops_mark (by simp [stopWords]) _) (by rw [List.singleton_append, isL_mark]; decide)) (by rw [List.singleton_append, isL_mark]; decide)
    have arrow : ∀ (t : Tm) (ht : t ∈ kids) (s : List TokT), Stops s → isL s mSeq = false → Reads_ .all (inT t ++ s) (some (t, s)) := fun t ht s h h' => all_part ((ihk t ht).head.append s) ((ihk t ht).part s) h h'
    rcases kids_cases hn.kids ⟨hn.k1, hn.k2⟩ with ⟨rfl, rfl⟩ | ⟨rfl, rfl⟩ | ⟨hk, a, rfl⟩ | ⟨hk, a, b, rfl⟩ | ⟨rfl, a, b, c, rfl⟩
    · -- a number
      have hnm : nm = noName := by have := hn.nm; rw [if_neg (by decide), if_neg (by decide)] at this; exact this
      subst hnm
      have hp : ∀ s, Reads_ .part (inT ⟨1, noName, n, []⟩ ++ s) (some (⟨1, noName, n, []⟩, s)) := fun s => part_low (x := numTok n) s (.inr rfl)
      exact ⟨hp, .low (numTok n) [] (.inr rfl), fun s hs hq => all_part (.low (numTok n) s (.inr rfl)) (hp s) hs hq⟩
    · -- a name
      have hz : n = 0 := by rcases hn.nz with h | h; exact absurd h (by decide); exact h
      subst hz
      have hp : ∀ s, Reads_ .part (inT ⟨2, nm, 0, []⟩ ++ s) (some (⟨2, nm, 0, []⟩, s)) := fun s => part_low (x := nameTok nm) s (.inl rfl)
      exact ⟨hp, .low (nameTok nm) [] (.inl rfl), fun s hs hq => all_part (.low (nameTok nm) s (.inl rfl)) (hp s) hs hq⟩
    · have hz : n = 0 := by rcases hn.nz with h | h; (exfalso; omega); exact h
      subst hz
      have ha : a ∈ [a] := by simp
      rcases hk with rfl | rfl | rfl
      · refine close (fun s hs hq => ?_) (by decide)
        show Reads_ .all (keyTok kFun :: nameTok nm :: markTok mArrow :: inT a ++ s) _
        exact all_of (Ev.step (Ev.pos (by rw [List.cons_append, isL_key]; decide) (Ev.name (bound_of nm mArrow _) (Ev.then_ (arrow a ha s hs hq) (Ev.now _))))) hq
      · have hnm : nm = noName := by have := hn.nm; rw [if_neg (by decide), if_neg (by decide)] at this; exact this
        subst hnm
        refine close (fun s hs hq => ?_) (by decide)
        show Reads_ .all (keyTok kRaise :: inT a ++ s) _
        refine all_of (Ev.step ?_) hq
        rw [List.cons_append]
        refine Ev.neg (by rw [isL_key]; decide) (Ev.neg (by rw [isL_key]; decide) (Ev.neg (by rw [isL_key]; decide) (Ev.neg (by rw [isL_key]; decide) (Ev.pos (by rw [isL_key]; decide) ?_))))
        exact Ev.then_ (one_part ((ihk a ha).head.append s) ((ihk a ha).part s) hs) (Ev.now _)
      · have hnm : nm = noName := by have := hn.nm; rw [if_neg (by decide), if_neg (by decide)] at this; exact this
        subst hnm
        refine close (fun s hs hq => ?_) (by decide)
        show Reads_ .all (markTok mGet :: inT a ++ s) _
        rw [List.cons_append]
        exact all_part (.get _) (part_get ((ihk a ha).part s)) hs hq
    · have hz : n = 0 := by rcases hn.nz with h | h; (exfalso; omega); exact h
      subst hz
      have ha : a ∈ [a, b] := by simp
      have hb : b ∈ [a, b] := by simp
      have noname : ¬ (k = 5 ∨ k = 9 ∨ k = 12) → nm = noName := by
        intro hne
        have := hn.nm
        rw [if_neg (by simp [binderK]; omega), if_neg (by omega)] at this; exact this
      rcases hk with rfl | rfl | rfl | rfl | rfl | rfl | rfl
      · obtain rfl := noname (by decide)
        refine close (fun s hs hq => ?_) (by decide)
        show Reads_ .all ((inT a ++ inT b) ++ s) _
        rw [List.append_assoc]
        refine all_of (one_of ((ihk a ha).head.append _) (plain_of (Ev.step (Ev.then_ ((ihk a ha).part _) (Ev.step (Ev.pos ((ihk b hb).head.append s).begins (Ev.then_ ((ihk b hb).part s) (Ev.step (Ev.neg (by rw [hs.b]; decide) (Ev.now _)))))))) hs)) hq
      · refine close (fun s hs hq => ?_) (by decide)
        show Reads_ .all (keyTok kLet :: nameTok nm :: markTok mEq :: (inT a ++ keyTok kIn :: inT b) ++ s) _
        rw [List.cons_append, List.cons_append, List.cons_append, List.append_assoc, List.cons_append]
        refine all_of (Ev.step (Ev.neg (by rw [isL_key]; decide) (Ev.pos (by rw [isL_key]; decide) (Ev.name (bound_of nm mEq _) (Ev.key (arrow a ha _ (stops_key (by simp [stopWords]) _) (by rw [isL_key]; decide)) (by rw [isL_key]; decide) (Ev.then_ (arrow b hb s hs hq) (Ev.now _))))))) hq
      · obtain rfl := noname (by decide)
        refine close (fun s hs hq => ?_) (by decide)
        show Reads_ .all (keyTok kWhile :: (inT a ++ keyTok kDo :: inT b) ++ s) _
        rw [List.cons_append, List.append_assoc, List.cons_append]
        refine all_of (Ev.step (Ev.neg (by rw [isL_key]; decide) (Ev.neg (by rw [isL_key]; decide) (Ev.neg (by rw [isL_key]; decide) (Ev.pos (by rw [isL_key]; decide) (Ev.key (arrow a ha _ (stops_key (by simp [stopWords]) _) (by rw [isL_key]; decide)) (by rw [isL_key]; decide) (Ev.then_ (arrow b hb s hs hq) (Ev.now _)))))))) hq
      · refine close (fun s hs hq => ?_) (by decide)
        show Reads_ .all (keyTok kTry :: (inT a ++ keyTok kWith :: nameTok nm :: markTok mArrow :: inT b) ++ s) _
        rw [List.cons_append, List.append_assoc, List.cons_append, List.cons_append, List.cons_append]
        refine all_of (Ev.step (Ev.neg (by rw [isL_key]; decide) (Ev.neg (by rw [isL_key]; decide) (Ev.neg (by rw [isL_key]; decide) (Ev.neg (by rw [isL_key]; decide) (Ev.neg (by rw [isL_key]; decide) (Ev.pos (by rw [isL_key]; decide) (Ev.key (arrow a ha _ (stops_key (by simp [stopWords]) _) (by rw [isL_key]; decide)) (by rw [isL_key]; decide) (Ev.name (bound_of nm mArrow _) (Ev.then_ (arrow b hb s hs hq) (Ev.now _))))))))))) hq
      · obtain rfl := noname (by decide)
        refine close (fun s hs hq => ?_) (by decide)
        show Reads_ .all ((inT a ++ markTok mSet :: inT b) ++ s) _
        rw [List.append_assoc, List.cons_append]
        refine all_of (one_of ((ihk a ha).head.append _) (Ev.step (Ev.then_ (parts_of ((ihk a ha).part _) (begins_mark _ _ (by decide) (by decide))) (Ev.pos (by rw [isL_mark]; decide) (Ev.then_ (one_part ((ihk b hb).head.append s) ((ihk b hb).part s) hs) (Ev.now _)))))) hq
      · have hop : nm ∈ opWords := by have := hn.nm; rw [if_neg (by decide), if_pos rfl] at this; exact this
        refine close (fun s hs hq => ?_) (by decide)
        show Reads_ .all ((inT a ++ markTok nm :: inT b) ++ s) _
        rw [List.append_assoc, List.cons_append]
        obtain ⟨o1, o2, o3⟩ := ops_find hop (inT b ++ s)
        refine all_of (one_of ((ihk a ha).head.append _) (Ev.step (Ev.then_ (parts_of ((ihk a ha).part _) o3) (Ev.neg (by rw [o2]; decide) ?_)))) hq
        rw [o1]
        exact Ev.then_ (parts_of ((ihk b hb).part s) hs.b) (Ev.now _)
      · obtain rfl := noname (by decide)
        refine close (fun s hs hq => ?_) (by decide)
        show Reads_ .all ((inT a ++ markTok mSeq :: inT b) ++ s) _
        rw [List.append_assoc, List.cons_append]
        exact Ev.step (Ev.then_ (one_part ((ihk a ha).head.append _) ((ihk a ha).part _) (stops_mark (by simp [stopWords]) _)) (Ev.pos (by rw [isL_mark]; decide) (Ev.then_ (arrow b hb s hs hq) (Ev.now _))))
    · have hz : n = 0 := by rcases hn.nz with h | h; (exfalso; omega); exact h
      subst hz
      have hnm : nm = noName := by have := hn.nm; rw [if_neg (by decide), if_neg (by decide)] at this; exact this
      subst hnm
      refine close (fun s hs hq => ?_) (by decide)
      show Reads_ .all (keyTok kIf :: (inT a ++ keyTok kThen :: (inT b ++ keyTok kElse :: inT c)) ++ s) _
      rw [List.cons_append, List.append_assoc, List.cons_append, List.append_assoc, List.cons_append]
      refine all_of (Ev.step (Ev.neg (by rw [isL_key]; decide) (Ev.neg (by rw [isL_key]; decide) (Ev.pos (by rw [isL_key]; decide) (Ev.key (arrow a (by simp) _ (stops_key (by simp [stopWords]) _) (by rw [isL_key]; decide)) (by rw [isL_key]; decide) (Ev.key (arrow b (by simp) _ (stops_key (by simp [stopWords]) _) (by rw [isL_key]; decide)) (by rw [isL_key]; decide) (Ev.then_ (arrow c (by simp) s hs hq) (Ev.now _)))))))) hq
end Go.Proofs.YtchekgnacodolaaDoor.X
end
section
namespace Go.Proofs.YtchekgnacodolaaDoor.X
set_option linter.unusedSimpArgs false
set_option linter.unusedVariables false
theorem shown_ind {P : Tm → Prop} (num : ∀ n : Int, 0 ≤ n → n < 2147483648 → P ⟨1, noName, n, []⟩) (var : ∀ nm, wordB nm = true → P (tm 2 nm []))
    (fun_ : ∀ nm a, wordB nm = true → nodesT a = true → P a → P (tm 3 nm [a])) (app : ∀ a b, nodesT a = true → nodesT b = true → P a → P b → P (tm 4 noName [a, b]))
    (let_ : ∀ nm a b, wordB nm = true → nodesT a = true → nodesT b = true → P a → P b → P (tm 5 nm [a, b])) (if_ : ∀ a b c, nodesT a = true → nodesT b = true → nodesT c = true → P a → P b → P c → P (tm 6 noName [a, b, c]))
    (while_ : ∀ a b, nodesT a = true → nodesT b = true → P a → P b → P (tm 7 noName [a, b])) (raise : ∀ a, nodesT a = true → P a → P (tm 8 noName [a]))
    (try_ : ∀ nm a b, wordB nm = true → nodesT a = true → nodesT b = true → P a → P b → P (tm 9 nm [a, b])) (get : ∀ a, nodesT a = true → P a → P (tm 10 noName [a]))
    (set : ∀ a b, nodesT a = true → nodesT b = true → P a → P b → P (tm 11 noName [a, b])) (op : ∀ nm a b, nm ∈ opWords → nodesT a = true → nodesT b = true → P a → P b → P (tm 12 nm [a, b]))
    (seq : ∀ a b, nodesT a = true → nodesT b = true → P a → P b → P (tm 13 noName [a, b])) (t : Tm) : nodesT t = true → P t := by
  induction t using Tm.ind with
  | h k nm n kids ih =>
    intro h
    rw [nodesT, Bool.and_eq_true] at h
    obtain ⟨h1, h2⟩ := h
    have hn := (nodeB_iff k nm n kids.length).1 h1
    have nd : ∀ t ∈ kids, nodesT t = true := nodessT_mem h2
    have pd : ∀ t ∈ kids, P t := fun t ht => ih t ht (nd t ht)
    have hnm := hn.nm
    have hz : k ≠ 1 → n = 0 := fun h => by rcases hn.nz with h' | h'; exact absurd h' h; exact h'
    rcases kids_cases hn.kids ⟨hn.k1, hn.k2⟩ with ⟨rfl, rfl⟩ | ⟨rfl, rfl⟩ | ⟨hk, a, rfl⟩ | ⟨hk, a, b, rfl⟩ | ⟨rfl, a, b, c, rfl⟩
    · rw [if_neg (by decide), if_neg (by decide)] at hnm
      subst hnm
      exact num n hn.n0 hn.n1
    · obtain rfl := hz (by decide)
      rw [if_pos (by decide)] at hnm
      exact var nm hnm
    · have na := nd a (by simp)
      have pa := pd a (by simp)
      rcases hk with rfl | rfl | rfl
      · obtain rfl := hz (by decide)
        rw [if_pos (by decide)] at hnm
        exact fun_ nm a hnm na pa
      · obtain rfl := hz (by decide)
        rw [if_neg (by decide), if_neg (by decide)] at hnm
        subst hnm
        exact raise a na pa
      · obtain rfl := hz (by decide)
        rw [if_neg (by decide), if_neg (by decide)] at hnm
        subst hnm
        exact get a na pa
    · have na := nd a (by simp)
      have pa := pd a (by simp)
      have nb := nd b (by simp)
      have pb := pd b (by simp)
      rcases hk with rfl | rfl | rfl | rfl | rfl | rfl | rfl
      · obtain rfl := hz (by decide)
        rw [if_neg (by decide), if_neg (by decide)] at hnm
        subst hnm
        exact app a b na nb pa pb
      · obtain rfl := hz (by decide)
        rw [if_pos (by decide)] at hnm
        exact let_ nm a b hnm na nb pa pb
      · obtain rfl := hz (by decide)
        rw [if_neg (by decide), if_neg (by decide)] at hnm
        subst hnm
        exact while_ a b na nb pa pb
      · obtain rfl := hz (by decide)
        rw [if_pos (by decide)] at hnm
        exact try_ nm a b hnm na nb pa pb
      · obtain rfl := hz (by decide)
        rw [if_neg (by decide), if_neg (by decide)] at hnm
        subst hnm
        exact set a b na nb pa pb
      · obtain rfl := hz (by decide)
        rw [if_neg (by decide), if_pos rfl] at hnm
        exact op nm a b hnm na nb pa pb
      · obtain rfl := hz (by decide)
        rw [if_neg (by decide), if_neg (by decide)] at hnm
        subst hnm
        exact seq a b na nb pa pb
    · obtain rfl := hz (by decide)
      rw [if_neg (by decide), if_neg (by decide)] at hnm
      subst hnm
      exact if_ a b c (nd a (by simp)) (nd b (by simp)) (nd c (by simp)) (pd a (by simp)) (pd b (by simp)) (pd c (by simp))
theorem right_key {w : ByteArray} (h : w ∈ keyWords) : rightT (keyTok w) = true := by
  have hk : isKey w = true := (isKey_iff w).2 h
  have e : wordTok w.data.toList = ⟨3, w.data.toList, 0, w.data.toList.length, true⟩ := by unfold wordTok; rw [B_of, if_pos hk]
  unfold rightT keyTok
  simp only [e]; rfl
theorem right_name {w : ByteArray} (h : wordB w = true) : rightT (nameTok w) = true := by
  unfold wordB at h
  simp only [Bool.and_eq_true, Bool.not_eq_true'] at h
  have e : wordTok w.data.toList = ⟨1, w.data.toList, 0, w.data.toList.length, true⟩ := by unfold wordTok; rw [B_of, h.2, h.1]; rfl
  unfold rightT nameTok
  simp only [e]; rfl
theorem right_mark {w : ByteArray} (h : w ∈ markWords) : rightT (markTok w) = true := by
  have hself : markWords.all (fun m => markL m.data.toList == some m.data.toList) = true := by decide +kernel
  have := List.all_eq_true.1 hself w h
  unfold rightT markTok
  simp only [this]; rfl
theorem itoaF_dec {n : Int} (h0 : 0 ≤ n) (h1 : n < 2147483648) : itoaF n = Lib.decDigits n.toNat := by
  unfold itoaF
  rw [if_neg (by omega), decF_eq 20 _ (by omega) (by omega)]
theorem right_num {n : Int} (h0 : 0 ≤ n) (h1 : n < 2147483648) : rightT (numTok n) = true := by
  unfold rightT numTok
  simp only
  rw [itoaF_dec h0 h1, num_dec n.toNat (by omega)]
  simp; omega
theorem name_right {t : TokT} (h : rightT t = true) (h1 : t.f0 = 1) : wordB t.f1 = true ∧ t = nameTok t.f1 := by
  obtain ⟨f0, f1, f2⟩ := t
  simp only at h1
  subst h1
  unfold rightT at h
  dsimp only at h
  rw [if_pos (show (1 : Int) = 1 ∨ (1 : Int) = 3 from .inl rfl)] at h
  simp only [Bool.and_eq_true, beq_iff_eq] at h
  obtain ⟨⟨h2, h3⟩, rfl⟩ := h
  refine ⟨?_, rfl⟩
  unfold wordTok at h2 h3
  rw [B_of] at h2 h3
  unfold wordB
  by_cases hk : isKey f1 = true
  · rw [if_pos hk] at h3; cases h3
  · rw [if_neg hk] at h2; simp only at h2; rw [h2]; simpa using hk
theorem num_right2 {t : TokT} (h : rightT t = true) (h1 : t.f0 = 2) : 0 ≤ t.f2 ∧ t.f2 < 2147483648 ∧ t = numTok t.f2 := by
  obtain ⟨f0, f1, f2⟩ := t
  simp only at h1
  subst h1
  unfold rightT at h
  dsimp only at h
  rw [if_neg (by decide), if_pos rfl] at h
  simp only [Bool.and_eq_true, beq_iff_eq, decide_eq_true_eq] at h
  obtain ⟨⟨h2, h3⟩, h4⟩ := h
  have e := B_of f1
  rw [← e] at h2 h3 h4
  obtain ⟨v, hv, hd⟩ := (num_iff f1.data.toList).1 ⟨h2, h3⟩
  rw [hd, num_dec v hv] at h4
  simp only at h4
  subst h4
  refine ⟨by simp, by simp; omega, ?_⟩
  unfold numTok
  simp only
  rw [itoaF_dec (by omega) (by omega), Int.toNat_natCast, ← hd, e]
theorem kw_mem : ∀ w ∈ [kFun, kLet, kIn, kIf, kThen, kElse, kWhile, kDo, kRaise, kTry, kWith], w ∈ keyWords := by
  intro w hw
  simp only [List.mem_cons, List.not_mem_nil, or_false] at hw
  rcases hw with rfl | rfl | rfl | rfl | rfl | rfl | rfl | rfl | rfl | rfl | rfl <;> simp [keyWords, kFun, kLet, kIn, kIf, kThen, kElse, kWhile, kDo, kRaise, kTry, kWith]
theorem mw_mem : ∀ w ∈ [mArrow, mSet, mOpen, mClose, mSeq, mEq, mGet] ++ opWords, w ∈ markWords := by
  intro w hw
  simp only [opWords, List.mem_cons, List.not_mem_nil, or_false, List.mem_append] at hw
  rcases hw with (rfl | rfl | rfl | rfl | rfl | rfl | rfl) | (rfl | rfl | rfl | rfl | rfl) <;> simp [markWords, mArrow, mSet, mOpen, mClose, mSeq, mEq, mGet]
theorem rk {w : ByteArray} (h : w ∈ [kFun, kLet, kIn, kIf, kThen, kElse, kWhile, kDo, kRaise, kTry, kWith]) : rightT (keyTok w) = true := right_key (kw_mem w h)
theorem rm {w : ByteArray} (h : w ∈ [mArrow, mSet, mOpen, mClose, mSeq, mEq, mGet] ++ opWords) : rightT (markTok w) = true := right_mark (mw_mem w h)
theorem in_right {t : Tm} (h : (toksT t).all rightT = true) : (inT t).all rightT = true := by
  unfold inT withinT
  split
  · exact h
  · rw [List.all_append, List.all_cons, h, rm (by simp)]; simp [rm (w := mClose) (by simp)]
theorem toks_right (t : Tm) (h : nodesT t = true) : (toksT t).all rightT = true := by
  refine shown_ind (P := fun t => (toksT t).all rightT = true) ?_ ?_ ?_ ?_ ?_ ?_ ?_ ?_ ?_ ?_ ?_ ?_ ?_ t h
  · intro n h0 h1; show ([numTok n]).all rightT = true; simp [right_num h0 h1]
  · intro nm hn; show ([nameTok nm]).all rightT = true; simp [right_name hn]
  · intro nm a hn _ pa; show (keyTok kFun :: nameTok nm :: markTok mArrow :: inT a).all rightT = true
    simp only [List.all_cons, rk (w := kFun) (by simp), right_name hn, rm (w := mArrow) (by simp), in_right pa, Bool.and_true]
  · intro a b _ _ pa pb; show (inT a ++ inT b).all rightT = true; rw [List.all_append, in_right pa, in_right pb]; rfl
  · intro nm a b hn _ _ pa pb; show (keyTok kLet :: nameTok nm :: markTok mEq :: (inT a ++ keyTok kIn :: inT b)).all rightT = true
    simp only [List.all_cons, List.all_append, rk (w := kLet) (by simp), rk (w := kIn) (by simp), right_name hn, rm (w := mEq) (by simp), in_right pa, in_right pb, Bool.and_true]
  · intro a b c _ _ _ pa pb pc; show (keyTok kIf :: (inT a ++ keyTok kThen :: (inT b ++ keyTok kElse :: inT c))).all rightT = true
    simp only [List.all_cons, List.all_append, rk (w := kIf) (by simp), rk (w := kThen) (by simp), rk (w := kElse) (by simp), in_right pa, in_right pb, in_right pc, Bool.and_true]
  · intro a b _ _ pa pb; show (keyTok kWhile :: (inT a ++ keyTok kDo :: inT b)).all rightT = true
    simp only [List.all_cons, List.all_append, rk (w := kWhile) (by simp), rk (w := kDo) (by simp), in_right pa, in_right pb, Bool.and_true]
  · intro a _ pa; show (keyTok kRaise :: inT a).all rightT = true
    simp only [List.all_cons, rk (w := kRaise) (by simp), in_right pa, Bool.and_true]
  · intro nm a b hn _ _ pa pb; show (keyTok kTry :: (inT a ++ keyTok kWith :: nameTok nm :: markTok mArrow :: inT b)).all rightT = true
    simp only [List.all_cons, List.all_append, rk (w := kTry) (by simp), rk (w := kWith) (by simp), right_name hn, rm (w := mArrow) (by simp), in_right pa, in_right pb, Bool.and_true]
  · intro a _ pa; show (markTok mGet :: inT a).all rightT = true
    simp only [List.all_cons, rm (w := mGet) (by simp), in_right pa, Bool.and_true]
  · intro a b _ _ pa pb; show (inT a ++ markTok mSet :: inT b).all rightT = true
    simp only [List.all_cons, List.all_append, rm (w := mSet) (by simp), in_right pa, in_right pb, Bool.and_true]
  · intro nm a b hn _ _ pa pb; show (inT a ++ markTok nm :: inT b).all rightT = true
    simp only [List.all_cons, List.all_append, rm (w := nm) (List.mem_append_right _ hn), in_right pa, in_right pb, Bool.and_true]
  · intro a b _ _ pa pb; show (inT a ++ markTok mSeq :: inT b).all rightT = true
    simp only [List.all_cons, List.all_append, rm (w := mSeq) (by simp), in_right pa, in_right pb, Bool.and_true]
def Bal (d : Int) (ts : List TokT) : Prop := ∀ n m : Int, ∃ m', ts.foldl nestStep (n, m) = (n, m') ∧ m ≤ m' ∧ m' ≤ max m (n + d)
theorem Bal.nil {d : Int} (h : 0 ≤ d) : Bal d [] := fun n m => ⟨m, rfl, Int.le_refl _, by omega⟩
theorem Bal.app {d : Int} {a b : List TokT} (h : Bal d a) (k : Bal d b) : Bal d (a ++ b) := by
  intro n m
  obtain ⟨m1, e1, h1, h2⟩ := h n m
  obtain ⟨m2, e2, h3, h4⟩ := k n m1
  exact ⟨m2, by rw [List.foldl_append, e1, e2], by omega, by omega⟩
theorem Bal.cons {d : Int} {x : TokT} {a : List TokT} (hx : ∀ n m, nestStep (n, m) x = (n, m) ∨ nestStep (n, m) x = (n, max m n)) (hd : 0 ≤ d) (k : Bal d a) : Bal d (x :: a) := by
  intro n m
  rw [List.foldl_cons]
  rcases hx n m with e | e
  · rw [e]; exact k n m
  · rw [e]
    obtain ⟨m2, e2, h3, h4⟩ := k n (max m n)
    exact ⟨m2, e2, by omega, by omega⟩
theorem Bal.mono {d d' : Int} {a : List TokT} (h : Bal d a) (hd : d ≤ d') : Bal d' a := fun n m => by
  obtain ⟨m1, e1, h1, h2⟩ := h n m
  exact ⟨m1, e1, h1, by omega⟩
theorem nest_low {x : TokT} (h : x.f0 ≠ 4) (n m : Int) : nestStep (n, m) x = (n, m) ∨ nestStep (n, m) x = (n, max m n) := .inl (by unfold nestStep; rw [if_pos h])
theorem size_pos (t : Tm) : 1 ≤ sizeT t := by cases t; rw [sizeT]; omega
theorem nn (w : ByteArray) (n m : Int) : nestStep (n, m) (nameTok w) = (n, m) ∨ nestStep (n, m) (nameTok w) = (n, max m n) := nest_low (by simp [nameTok]) n m
end Go.Proofs.YtchekgnacodolaaDoor.X
end
section
namespace Go.Proofs.YtchekgnacodolaaDoor.X
set_option linter.unusedSimpArgs false
set_option linter.unusedVariables false
def W : List TokT → Nat
  | [] => 0
  | t :: r => t.f1.size + 1 + W r
theorem W_app (a b : List TokT) : W (a ++ b) = W a + W b := by
  induction a with
  | nil => simp [W]
  | cons x a ih => rw [List.cons_append, W, W, ih]; omega
theorem W_cons (x : TokT) (r : List TokT) : W (x :: r) = x.f1.size + 1 + W r := rfl
theorem W_in (t : Tm) : W (inT t) ≤ W (toksT t) + 4 := by
  unfold inT withinT
  split
  · omega
  · rw [W_app, W_cons]
    have e1 : (markTok mOpen).f1.size = 1 := rfl
    have e2 : W [markTok mClose] = 2 := rfl
    omega
theorem W_len (l : List TokT) : (printL l).length ≤ W l := by
  refine Nat.le_trans (printL_len l) ?_
  induction l with
  | nil => exact Nat.le_refl _
  | cons x l ih => rw [List.map_cons, List.sum_cons, W]; omega
def Holds (a : PR) (Q : Tm → List TokT → Prop) : Prop := ∀ t s', a = some (some (t, s')) → Q t s'
theorem Holds.fail (Q : Tm → List TokT → Prop) : Holds (some none) Q := fun _ _ h => by cases h
theorem Holds.none (Q : Tm → List TokT → Prop) : Holds Option.none Q := fun _ _ h => by cases h
theorem Holds.ret {Q : Tm → List TokT → Prop} {t : Tm} {s : List TokT} (h : Q t s) : Holds (PR.ret t s) Q := fun _ _ e => by injection e with e; injection e with e; injection e with e1 e2; subst e1 e2; exact h
theorem Holds.then_ {Q Q' : Tm → List TokT → Prop} {a : PR} {f : Tm → List TokT → PR} (h : Holds a Q) (hf : ∀ t s, Q t s → Holds (f t s) Q') : Holds (a.then_ f) Q' := by
  intro t s' e
  cases a with
  | none => cases e
  | some x =>
    cases x with
    | none => cases e
    | some p => exact hf p.1 p.2 (h _ _ rfl) t s' e
theorem Holds.ite {Q : Tm → List TokT → Prop} {c : Prop} [Decidable c] {a b : PR} (h : c → Holds a Q) (k : ¬ c → Holds b Q) : Holds (if c then a else b) Q := by
  split
  · exact h ‹_›
  · exact k ‹_›
theorem isL_w {s : List TokT} {m : ByteArray} (h : isL s m = true) (hr : s.all rightT = true) : s.tail.all rightT = true ∧ W s = m.size + 1 + W s.tail := by
  obtain ⟨x, r, rfl⟩ := isL_ne h
  rw [isL_cons, Bool.and_eq_true] at h
  have e := ba_eq (eq_of_beq h.2)
  rw [List.all_cons, Bool.and_eq_true] at hr
  refine ⟨hr.2, ?_⟩
  rw [W_cons, e]; rfl
theorem Holds.key {Q Q' : Tm → List TokT → Prop} {a : PR} {m : ByteArray} {f : Tm → List TokT → PR} (h : Holds a Q) (hf : ∀ t s, Q t s → isL s m = true → Holds (f t s.tail) Q') : Holds (a.key m f) Q' :=
  h.then_ fun t s q => Holds.ite (fun c => hf t s q c) fun _ => Holds.fail _
theorem Holds.name {Q' : Tm → List TokT → Prop} {s : List TokT} {m : ByteArray} {f : ByteArray → List TokT → PR} (hr : s.all rightT = true) (hf : ∀ n s', wordB n = true → s'.all rightT = true → W s = n.size + 1 + (m.size + 1) + W s' → Holds (f n s') Q') : Holds (PR.name (boundL s m) f) Q' := by
  unfold boundL
  split
  · rename_i h1
    split
    · rename_i h2
      obtain ⟨x, r, rfl⟩ := peek_ne (s := s) (by rw [h1]; decide)
      rw [List.all_cons, Bool.and_eq_true] at hr
      obtain ⟨h3, h4⟩ := isL_w h2 hr.2
      refine hf x.f1 _ (name_right hr.1 h1).1 h3 ?_
      rw [W_cons]
      simp only [List.tail_cons] at h4 ⊢
      omega
    · exact Holds.fail _
  · exact Holds.fail _
theorem size1 (k : Int) (nm : ByteArray) (x : Tm) : sizeT (tm k nm [x]) = 1 + sizeT x := rfl
theorem size2 (k : Int) (nm : ByteArray) (x y : Tm) : sizeT (tm k nm [x, y]) = 1 + (sizeT x + sizeT y) := rfl
theorem size3 (k : Int) (nm : ByteArray) (x y z : Tm) : sizeT (tm k nm [x, y, z]) = 1 + (sizeT x + (sizeT y + sizeT z)) := rfl
theorem wk (w : ByteArray) (r : List TokT) : W (keyTok w :: r) = w.size + 1 + W r := rfl
theorem wm (w : ByteArray) (r : List TokT) : W (markTok w :: r) = w.size + 1 + W r := rfl
theorem wn (w : ByteArray) (r : List TokT) : W (nameTok w :: r) = w.size + 1 + W r := rfl
theorem toks_le_in (t : Tm) : W (toksT t) ≤ W (inT t) := by
  unfold inT withinT
  split
  · exact Nat.le_refl _
  · rw [W_app, W_cons]; omega
end Go.Proofs.YtchekgnacodolaaDoor.X
end
section
namespace Go.Proofs.YtchekgnacodolaaDoor.X
open Go.RowKit Go.Proofs.YtchekgnacodolaaDoorW.PrintWords
set_option linter.unusedSimpArgs false
set_option linter.unusedVariables false
theorem mx_eq (a b : Int) : mx a b = max a b := by unfold mx; omega
theorem rdTm_at (l : List Tm) (i : Nat) (h : i < l.length) : rd_T26 l (i : Int) = l[i] := by
  unfold rd_T26; simp [List.getD_eq_getElem?_getD, List.getElem?_eq_getElem h]
theorem size_mem {l : List Tm} {t : Tm} (h : t ∈ l) : sizeT t ≤ sizesT l := by
  induction l with
  | nil => cases h
  | cons x r ih =>
    rw [sizesT]
    rcases List.mem_cons.1 h with rfl | h
    · omega
    · have := ih h; omega
theorem sizes_len (l : List Tm) : l.length ≤ sizesT l := by
  induction l with
  | nil => simp
  | cons x r ih => have := size_pos x; rw [sizesT, List.length_cons]; omega
theorem sizes_app (a b : List Tm) : sizesT (a ++ b) = sizesT a + sizesT b := by
  induction a with
  | nil => simp [sizesT]
  | cons x r ih => rw [List.cons_append, sizesT, sizesT, ih]; omega
theorem sizes_drop (l : List Tm) (i : Nat) : sizesT (l.drop i) ≤ sizesT l := by
  have := sizes_app (l.take i) (l.drop i)
  rw [List.take_append_drop] at this; omega
theorem depth_le_size (t : Tm) : depthT t ≤ sizeT t := by
  induction t using Tm.ind with
  | h a b c l ih =>
    rw [depthT, sizeT]
    have : depthsT l ≤ sizesT l := by
      induction l with
      | nil => simp [depthsT, sizesT]
      | cons x r ihr =>
        have h1 := ih x (by simp)
        have h2 := ihr fun t ht => ih t (by simp [ht])
        rw [depthsT, sizesT]; omega
    omega
theorem size_loop (l : List Tm) (hl : sizesT l ≤ 9223372036854775806) (ih : ∀ t ∈ l, ∀ k, 2 * sizeT t ≤ k → term_Size.f k t.f0 t.f1 t.f2 t.f3 = some (sizeT t : Int)) (d : Nat) : ∀ (k i : Nat) (a : Nat), i ≤ l.length → l.length - i = d → 2 * sizesT (l.drop i) + 1 ≤ k → a + sizesT (l.drop i) ≤ 9223372036854775807 →
    term_Size.l0 k (a : Int) l (l.length : Int) (i : Int) = some ((a + sizesT (l.drop i) : Nat) : Int) := by
  have hlen := sizes_len l
  induction d with
  | zero =>
    intro k i a h1 h2 h3 h4
    obtain ⟨k, rfl⟩ : ∃ j, k = j + 1 := ⟨k - 1, by omega⟩
    simp only [term_Size.l0]
    rw [if_neg (by omega), List.drop_of_length_le (by omega)]
    rfl
  | succ d ihd =>
    intro k i a h1 h2 h3 h4
    obtain ⟨k, rfl⟩ : ∃ j, k = j + 1 := ⟨k - 1, by omega⟩
    have hlt : i < l.length := by omega
    have hd := List.drop_eq_getElem_cons hlt
    rw [hd, sizesT] at h3 h4 ⊢
    have hp := size_pos (l[i]'hlt)
    simp only [term_Size.l0]
    rw [if_pos (by omega), if_pos (by omega), if_pos (by omega), rdTm_at l i hlt, ih (l[i]'hlt) (List.getElem_mem hlt) k (by omega)]
    simp only [Option.bind_some]
    have e1 : wrap64 ((i : Int) + 1) = ((i + 1 : Nat) : Int) := by rw [wrap_id (by omega) (by omega)]; rfl
    have e2 : wrap64 ((a : Int) + (sizeT (l[i]'hlt) : Int)) = ((a + sizeT (l[i]'hlt) : Nat) : Int) := by rw [wrap_id (by omega) (by omega)]; rfl
    rw [e1, e2]
    clear e1 e2
    rw [ihd k (i + 1) (a + sizeT (l[i]'hlt)) (by omega) (by omega) (by omega) (by omega), Nat.add_assoc]
theorem size_eq (t : Tm) : sizeT t ≤ 9223372036854775807 → ∀ k, 2 * sizeT t ≤ k → term_Size.f k t.f0 t.f1 t.f2 t.f3 = some (sizeT t : Int) := by
  induction t using Tm.ind with
  | h a b c l ih =>
    intro hs k hk
    rw [sizeT] at hs hk ⊢
    obtain ⟨k, rfl⟩ : ∃ j, k = j + 1 := ⟨k - 1, by omega⟩
    have hloop := size_loop l (by omega) (fun t ht k hk => ih t ht (by have := size_mem ht; omega) k hk) l.length k 0 1 (by omega) (by omega) (by rw [List.drop_zero]; omega) (by rw [List.drop_zero]; omega)
    rw [List.drop_zero] at hloop
    rw [term_Size.f]
    exact hloop
theorem depth_loop (l : List Tm) (hl : sizesT l ≤ 9223372036854775806) (ih : ∀ t ∈ l, ∀ k, 2 * sizeT t ≤ k → term_Depth.f k t.f0 t.f1 t.f2 t.f3 = some (depthT t : Int)) (d : Nat) : ∀ (k i : Nat) (a : Nat), i ≤ l.length → l.length - i = d → 2 * sizesT (l.drop i) + 1 ≤ k → a ≤ 9223372036854775806 →
    term_Depth.l0 k (a : Int) l (l.length : Int) (i : Int) = some ((max a (depthsT (l.drop i)) + 1 : Nat) : Int) := by
  have hlen := sizes_len l
  induction d with
  | zero =>
    intro k i a h1 h2 h3 h4
    obtain ⟨k, rfl⟩ : ∃ j, k = j + 1 := ⟨k - 1, by omega⟩
    simp only [term_Depth.l0]
    rw [if_neg (by omega), List.drop_of_length_le (by omega), wrap_id (by omega) (by omega)]
    simp [depthsT]
  | succ d ihd =>
    intro k i a h1 h2 h3 h4
    obtain ⟨k, rfl⟩ : ∃ j, k = j + 1 := ⟨k - 1, by omega⟩
    have hlt : i < l.length := by omega
    have hd := List.drop_eq_getElem_cons hlt
    have hsd := sizes_drop l i
    rw [hd] at hsd ⊢
    rw [hd] at h3
    rw [sizesT] at h3 hsd
    rw [depthsT]
    have hp := size_pos (l[i]'hlt)
    have hds := depth_le_size (l[i]'hlt)
    simp only [term_Depth.l0]
    rw [if_pos (by omega), if_pos (by omega), if_pos (by omega), rdTm_at l i hlt, ih (l[i]'hlt) (List.getElem_mem hlt) k (by omega)]
    simp only [Option.bind_some]
    have e1 : wrap64 ((i : Int) + 1) = ((i + 1 : Nat) : Int) := by rw [wrap_id (by omega) (by omega)]; rfl
    have e2 : mx (a : Int) (depthT (l[i]'hlt) : Int) = ((max a (depthT (l[i]'hlt)) : Nat) : Int) := by rw [mx_eq]; omega
    rw [e1, e2]
    clear e1 e2
    rw [ihd k (i + 1) _ (by omega) (by omega) (by omega) (by omega), Nat.max_assoc]
theorem depth_eq (t : Tm) : sizeT t ≤ 9223372036854775807 → ∀ k, 2 * sizeT t ≤ k → term_Depth.f k t.f0 t.f1 t.f2 t.f3 = some (depthT t : Int) := by
  induction t using Tm.ind with
  | h a b c l ih =>
    intro hs k hk
    rw [sizeT] at hs hk
    rw [depthT]
    obtain ⟨k, rfl⟩ : ∃ j, k = j + 1 := ⟨k - 1, by omega⟩
    have hloop := depth_loop l (by omega) (fun t ht k hk => ih t ht (by have := size_mem ht; omega) k hk) l.length k 0 0 (by omega) (by omega) (by rw [List.drop_zero]; omega) (by omega)
    rw [List.drop_zero, Nat.zero_max] at hloop
    rw [term_Depth.f]
    exact hloop
theorem isKey_size {d : ByteArray} (h : isKey d = true) : d.size ≤ 16 := by
  have h1 := (isKey_iff d).1 h
  have : keyWords.all (fun m => decide (m.size ≤ 16)) = true := by decide +kernel
  simpa using List.all_eq_true.1 this _ h1
theorem right_size {t : TokT} (h : rightT t = true) : t.f1.size ≤ 16 := by
  have hc : t.f0 = 1 ∨ t.f0 = 3 ∨ t.f0 = 2 ∨ t.f0 = 4 := by
    unfold rightT at h
    by_cases h1 : t.f0 = 1 ∨ t.f0 = 3
    · rcases h1 with h1 | h1
      · exact .inl h1
      · exact .inr (.inl h1)
    · rw [if_neg h1] at h
      by_cases h2 : t.f0 = 2
      · exact .inr (.inr (.inl h2))
      · rw [if_neg h2] at h
        by_cases h4 : t.f0 = 4
        · exact .inr (.inr (.inr h4))
        · rw [if_neg h4] at h; cases h
  rcases hc with h1 | h1 | h1 | h1
  · have hw := (name_right h h1).1
    unfold wordB at hw
    rw [Bool.and_eq_true] at hw
    have hn := hw.1
    rw [size_len]
    cases hd : t.f1.data.toList with
    | nil => simp
    | cons b r => rw [hd] at hn; simp only [nameL, Bool.and_eq_true, decide_eq_true_eq] at hn; exact hn.2
  · unfold rightT at h
    rw [if_pos (Or.inr h1)] at h
    simp only [Bool.and_eq_true, beq_iff_eq] at h
    unfold wordTok at h
    rw [B_of] at h
    by_cases hk : isKey t.f1 = true
    · exact isKey_size hk
    · rw [if_neg hk] at h
      have := h.1.2
      rw [h1] at this
      simp only at this
      omega
  · obtain ⟨h0, h2, he⟩ := num_right2 h h1
    rw [he]
    have : (numTok t.f2).f1.size = (itoaF t.f2).length := B_size _
    rw [this, itoaF_dec h0 h2, dec_F _ (by omega)]
    exact Nat.le_trans (decF_len _ _) (by decide)
  · unfold rightT at h
    rw [if_neg (by omega), if_neg (by omega), if_pos h1] at h
    simp only [Bool.and_eq_true, beq_iff_eq] at h
    have hm := (markL_mem h.1).1
    have : (markWords.map (·.data.toList)).all (fun m => decide (m.length ≤ 16)) = true := by decide +kernel
    have := List.all_eq_true.1 this _ hm
    rw [size_len]
    simpa using this
theorem W_right {l : List TokT} (h : l.all rightT = true) : W l ≤ 17 * l.length := by
  induction l with
  | nil => simp [W]
  | cons x r ih =>
    rw [List.all_cons, Bool.and_eq_true] at h
    have := right_size h.1
    have := ih h.2
    rw [W, List.length_cons]; omega
end Go.Proofs.YtchekgnacodolaaDoor.X
end
section
namespace Go.Proofs.YtchekgnacodolaaDoor.X
set_option linter.unusedSimpArgs false
set_option linter.unusedVariables false
theorem toks_ne (t : Tm) (h : nodesT t = true) : toksT t ≠ [] := by
  have hh := (back t h).head
  intro e
  unfold inT withinT at hh
  split at hh
  · rw [e] at hh; cases hh
  · have := (back t h).all [] Stops.nil (isL_nil _)
    rw [e] at this
    obtain ⟨K, hK⟩ := this
    have h2 := run_fin (max K 5) .all [] (by simp [Mode.rank]; omega)
    obtain ⟨r, hr, hw⟩ := h2
    have hK2 : run (max K 5) .all [] = some (some (t, [])) := hK _ (Nat.le_max_left _ _)
    rw [hK2] at hr
    injection hr with hr
    have := (hw t [] hr.symm).2
    simp [Mode.min] at this
theorem lexR_print {l : List TokT} (h : l.all rightT = true) (hl : W l ≤ 65536) : lexR (printL l) = (l, 0) := by
  unfold lexR
  have := W_len l
  rw [if_neg (by omega), tokL_print l h]
def ReadsAs (l : List TokT) (t : Tm) : Prop := ∀ s, Stops s → isL s mSeq = false → Reads_ .all (l ++ s) (some (t, s))
theorem ReadsAs.part {l : List TokT} {t : Tm} (h : ReadsAs l t) (s : List TokT) : Reads_ .part (markTok mOpen :: l ++ markTok mClose :: s) (some (t, s)) := by
  rw [List.cons_append]
  exact part_paren (h (markTok mClose :: s) (stops_mark (by simp [stopWords]) _) (by rw [isL_mark]; decide)) (by rw [isL_mark]; decide)
theorem ReadsAs.seq {l m : List TokT} {t u : Tm} (h : ReadsAs l t) (k : ReadsAs m u) : ReadsAs (markTok mOpen :: l ++ [markTok mClose] ++ markTok mSeq :: m) (tm 13 noName [t, u]) := by
  intro s hs hq
  have e : markTok mOpen :: l ++ [markTok mClose] ++ markTok mSeq :: m ++ s = markTok mOpen :: l ++ markTok mClose :: (markTok mSeq :: (m ++ s)) := by simp
  rw [e]
  refine Ev.step (Ev.then_ (one_part (.mark _) (h.part (markTok mSeq :: (m ++ s))) (stops_mark (by simp [stopWords]) _)) (Ev.pos (by rw [isL_mark]; decide) (Ev.then_ (k s hs hq) (Ev.now _))))
end Go.Proofs.YtchekgnacodolaaDoor.X
end
section
namespace Go.Proofs.YtchekgnacodolaaDoor.X
set_option linter.unusedSimpArgs false
set_option linter.unusedVariables false
def byteM : List UInt8 → Int × List UInt8
  | [] => (0, [])
  | b :: r => ((b.toNat : Int), r)
def madeNames : List ByteArray := [⟨#[120]⟩, ⟨#[121]⟩, ⟨#[122]⟩, ⟨#[99]⟩, ⟨#[102, 49]⟩]
def kindM (leaf : Bool) (s : List UInt8) : Int := if leaf = true ∨ (byteM s).2 = [] then 1 + (1 + (byteM s).1 % 13) % 2 else 1 + (byteM s).1 % 13
def headM (k : Int) (s : List UInt8) : ByteArray × Int × List UInt8 :=
  if k = 1 then (noName, (byteM (byteM s).2).1 * 8421504, (byteM (byteM s).2).2)
  else if k = 12 then (opWords.getD ((byteM (byteM s).2).1 % 5).toNat noName, 0, (byteM (byteM s).2).2)
  else if k = 2 ∨ binderK k = true then (madeNames.getD ((byteM s).1 % 5).toNat noName, 0, (byteM s).2)
  else (noName, 0, (byteM s).2)
def kidsM (f : List UInt8 → Tm × List UInt8) : Nat → List UInt8 → List Tm × List UInt8
  | 0, s => ([], s)
  | c + 1, s => ((f s).1 :: (kidsM f c (f s).2).1, (kidsM f c (f s).2).2)
def makeT : Nat → List UInt8 → Tm × List UInt8
  | 0, s => (⟨kindM true s, (headM (kindM true s) (byteM s).2).1, (headM (kindM true s) (byteM s).2).2.1, []⟩, (headM (kindM true s) (byteM s).2).2.2)
  | d + 1, s =>
    (⟨kindM false s, (headM (kindM false s) (byteM s).2).1, (headM (kindM false s) (byteM s).2).2.1, (kidsM (makeT d) (kidsOf (kindM false s)).toNat (headM (kindM false s) (byteM s).2).2.2).1⟩,
      (kidsM (makeT d) (kidsOf (kindM false s)).toNat (headM (kindM false s) (byteM s).2).2.2).2)
def madeT (l : List UInt8) : Tm := (makeT 6 (l.take 60)).1
theorem byteM_range (s : List UInt8) : 0 ≤ (byteM s).1 ∧ (byteM s).1 ≤ 255 := by
  cases s with
  | nil => exact ⟨by decide, by decide⟩
  | cons b r => exact ⟨Int.natCast_nonneg _, by show ((b.toNat : Int)) ≤ 255; have := b.toNat_lt; omega⟩
def bigM : Nat → Nat
  | 0 => 11
  | d + 1 => 3 * bigM d + 17
def manyM : Nat → Nat
  | 0 => 1
  | d + 1 => 3 * manyM d + 1
structure Small (d : Nat) (t : Tm) : Prop where
  nodes : nodesT t = true
  depth : depthT t ≤ d + 1
  size : sizeT t ≤ manyM d
  w : W (inT t) ≤ bigM d
theorem kindM_range (leaf : Bool) (s : List UInt8) : 1 ≤ kindM leaf s ∧ kindM leaf s ≤ 13 := by
  have := byteM_range s
  unfold kindM
  split <;> omega
theorem kindM_leaf (s : List UInt8) : kindM true s = 1 ∨ kindM true s = 2 := by
  have := byteM_range s
  unfold kindM
  rw [if_pos (Or.inl rfl)]
  omega
theorem made_words : madeNames.all (fun n => wordB n && decide (n.size ≤ 2)) = true := by decide +kernel
theorem made_name (i : Nat) (h : i < 5) : wordB (madeNames.getD i noName) = true ∧ (madeNames.getD i noName).size ≤ 2 := by
  have h1 : madeNames.getD i noName ∈ madeNames := by
    rw [List.getD_eq_getElem?_getD, List.getElem?_eq_getElem (show i < madeNames.length from h)]
    exact List.getElem_mem _
  have := List.all_eq_true.1 made_words _ h1
  simpa using this
theorem op_at (i : Nat) (h : i < 5) : opWords.getD i noName ∈ opWords := by
  rw [List.getD_eq_getElem?_getD, List.getElem?_eq_getElem (show i < opWords.length from h)]
  exact List.getElem_mem _
theorem op_size {o : ByteArray} (ho : o ∈ opWords) : o.size = 1 := by
  simp only [opWords, List.mem_cons, List.not_mem_nil, or_false] at ho
  rcases ho with rfl | rfl | rfl | rfl | rfl <;> rfl
theorem headM_num (k : Int) (s : List UInt8) (hk : k = 1) : (headM k s).1 = noName ∧ 0 ≤ (headM k s).2.1 ∧ (headM k s).2.1 < 2147483648 := by
  have := byteM_range (byteM s).2
  unfold headM
  rw [if_pos hk]
  exact ⟨rfl, by show 0 ≤ _ * _; omega, by show _ * _ < _; omega⟩
theorem headM_node (k : Int) (s : List UInt8) (h1 : 1 ≤ k) (h2 : k ≤ 13) (c : Int) (hc : c = kidsOf k) : NodeR k (headM k s).1 (headM k s).2.1 c := by
  by_cases hk : k = 1
  · obtain ⟨a, b, c'⟩ := headM_num k s hk
    exact ⟨h1, by omega, hc, b, c', .inl hk, by subst hk; rw [a, if_neg (by decide), if_neg (by decide)]⟩
  · unfold headM
    rw [if_neg hk]
    have r1 := byteM_range s
    have r2 := byteM_range (byteM s).2
    by_cases h12 : k = 12
    · rw [if_pos h12]
      subst h12
      exact ⟨h1, by omega, hc, by show (0:Int) ≤ 0; decide, by show (0:Int) < _; decide, .inr rfl, by rw [if_neg (by decide), if_pos rfl]; exact op_at _ (by omega)⟩
    · rw [if_neg h12]
      by_cases hb : k = 2 ∨ binderK k = true
      · rw [if_pos hb]
        exact ⟨h1, by omega, hc, by show (0:Int) ≤ 0; decide, by show (0:Int) < _; decide, .inr rfl, by rw [if_pos hb.symm]; exact (made_name _ (by omega)).1⟩
      · rw [if_neg hb]
        exact ⟨h1, by omega, hc, by show (0:Int) ≤ 0; decide, by show (0:Int) < _; decide, .inr rfl, by rw [if_neg (fun h => hb h.symm), if_neg h12]⟩
theorem headM_size (k : Int) (s : List UInt8) : (headM k s).1.size ≤ 2 := by
  have r1 := byteM_range s
  have r2 := byteM_range (byteM s).2
  unfold headM
  split
  · exact Nat.zero_le _
  · split
    · rw [op_size (op_at _ (by omega))]; omega
    · split
      · exact (made_name _ (by omega)).2
      · exact Nat.zero_le _
theorem num_len {n : Int} (h0 : 0 ≤ n) (h1 : n < 2147483648) : (numTok n).f1.size ≤ 10 := by
  have : (numTok n).f1.size = (itoaF n).length := B_size _
  rw [this, itoaF_dec h0 h1, dec_F _ (by omega)]
  exact decF_len _ _
theorem kidsM_len (f : List UInt8 → Tm × List UInt8) : ∀ c s, (kidsM f c s).1.length = c
  | 0, _ => rfl
  | c + 1, s => by show ((f s).1 :: _).length = _; rw [List.length_cons, kidsM_len f c]
theorem kidsM_all {f : List UInt8 → Tm × List UInt8} {P : Tm → Prop} (h : ∀ s, P (f s).1) : ∀ c s, ∀ t ∈ (kidsM f c s).1, P t
  | 0, _, t, ht => by cases ht
  | c + 1, s, t, ht => by
    rcases List.mem_cons.1 ht with rfl | ht
    · exact h s
    · exact kidsM_all h c _ t ht
theorem nodess_of : ∀ {l : List Tm}, (∀ t ∈ l, nodesT t = true) → nodessT l = true
  | [], _ => rfl
  | x :: r, h => by rw [nodessT, h x (by simp), nodess_of fun t ht => h t (by simp [ht])]; rfl
theorem inT_leaf {t : Tm} (h : t.f0 = 1 ∨ t.f0 = 2) : inT t = toksT t := by unfold inT withinT; rw [if_pos h]
theorem small_leaf (k : Int) (s : List UInt8) (hk : k = 1 ∨ k = 2) : Small 0 ⟨k, (headM k s).1, (headM k s).2.1, []⟩ := by
  have hn := headM_node k s (by omega) (by omega) 0 (by rcases hk with rfl | rfl <;> rfl)
  refine ⟨?_, by show 0 + 1 ≤ 1; omega, by show 1 + 0 ≤ 1; omega, ?_⟩
  · rw [nodesT]
    show (nodeB k _ _ 0 && true) = true
    rw [(nodeB_iff _ _ _ _).2 hn]; rfl
  · rw [inT_leaf hk]
    have hsz := headM_size k s
    rcases hk with rfl | rfl
    · obtain ⟨_, h0, h1⟩ := headM_num 1 s rfl
      show W [numTok _] ≤ 11
      have := num_len h0 h1
      rw [W_cons]; simp only [W]; omega
    · show W [nameTok _] ≤ 11
      rw [wn]; simp only [W]; omega
theorem bigM_pos (d : Nat) : 11 ≤ bigM d := by
  induction d with
  | zero => exact Nat.le_refl _
  | succ d ih => show 11 ≤ 3 * bigM d + 17; omega
theorem manyM_pos (d : Nat) : 1 ≤ manyM d := by
  cases d with
  | zero => exact Nat.le_refl _
  | succ d => show 1 ≤ 3 * manyM d + 1; omega
theorem small_node (d : Nat) (k : Int) (s : List UInt8) (kids : List Tm) (h1 : 1 ≤ k) (h2 : k ≤ 13) (hl : (kids.length : Int) = kidsOf k) (hk : ∀ t ∈ kids, Small d t) : Small (d + 1) ⟨k, (headM k s).1, (headM k s).2.1, kids⟩ := by
  have hn := headM_node k s h1 h2 kids.length hl
  have hnod : nodesT ⟨k, (headM k s).1, (headM k s).2.1, kids⟩ = true := by
    rw [nodesT, (nodeB_iff _ _ _ _).2 hn, nodess_of fun t ht => (hk t ht).nodes]; rfl
  have hsz := headM_size k s
  have z1 : mArrow.size = 2 ∧ mEq.size = 1 ∧ mGet.size = 1 ∧ mSet.size = 2 ∧ mSeq.size = 1 := ⟨rfl, rfl, rfl, rfl, rfl⟩
  have z2 : kFun.size = 3 ∧ kLet.size = 3 ∧ kIn.size = 2 ∧ kIf.size = 2 ∧ kThen.size = 4 ∧ kElse.size = 4 ∧ kWhile.size = 5 ∧ kDo.size = 2 ∧ kRaise.size = 5 ∧ kTry.size = 3 ∧ kWith.size = 4 := ⟨rfl, rfl, rfl, rfl, rfl, rfl, rfl, rfl, rfl, rfl, rfl⟩
  have hb := bigM_pos d
  have hm := manyM_pos d
  have hW := W_in ⟨k, (headM k s).1, (headM k s).2.1, kids⟩
  rcases kids_cases hl ⟨h1, by omega⟩ with ⟨rfl, rfl⟩ | ⟨rfl, rfl⟩ | ⟨hk', a, rfl⟩ | ⟨hk', a, b, rfl⟩ | ⟨rfl, a, b, c, rfl⟩
  · have h := small_leaf 1 s (.inl rfl)
    exact ⟨h.nodes, by have := h.depth; omega, by have := h.size; simp only [manyM] at this ⊢; omega, by have := h.w; simp only [bigM] at this ⊢; omega⟩
  · have h := small_leaf 2 s (.inr rfl)
    exact ⟨h.nodes, by have := h.depth; omega, by have := h.size; simp only [manyM] at this ⊢; omega, by have := h.w; simp only [bigM] at this ⊢; omega⟩
  · obtain ⟨n1, d1, s1, w1⟩ := hk a (by simp)
    refine ⟨hnod, by show max (depthT a) 0 + 1 ≤ _; omega, by show 1 + (sizeT a + 0) ≤ 3 * manyM d + 1; omega, ?_⟩
    show _ ≤ 3 * bigM d + 17
    refine Nat.le_trans hW ?_
    rcases hk' with rfl | rfl | rfl
    · show W (keyTok kFun :: nameTok _ :: markTok mArrow :: inT a) + 4 ≤ _; rw [wk, wn, wm]; omega
    · show W (keyTok kRaise :: inT a) + 4 ≤ _; rw [wk]; omega
    · show W (markTok mGet :: inT a) + 4 ≤ _; rw [wm]; omega
  · obtain ⟨n1, d1, s1, w1⟩ := hk a (by simp)
    obtain ⟨n2, d2, s2, w2⟩ := hk b (by simp)
    refine ⟨hnod, by show max (depthT a) (max (depthT b) 0) + 1 ≤ _; omega, by show 1 + (sizeT a + (sizeT b + 0)) ≤ 3 * manyM d + 1; omega, ?_⟩
    show _ ≤ 3 * bigM d + 17
    refine Nat.le_trans hW ?_
    rcases hk' with rfl | rfl | rfl | rfl | rfl | rfl | rfl
    · show W (inT a ++ inT b) + 4 ≤ _; rw [W_app]; omega
    · show W (keyTok kLet :: nameTok _ :: markTok mEq :: (inT a ++ keyTok kIn :: inT b)) + 4 ≤ _; rw [wk, wn, wm, W_app, wk]; omega
    · show W (keyTok kWhile :: (inT a ++ keyTok kDo :: inT b)) + 4 ≤ _; rw [wk, W_app, wk]; omega
    · show W (keyTok kTry :: (inT a ++ keyTok kWith :: nameTok _ :: markTok mArrow :: inT b)) + 4 ≤ _; rw [wk, W_app, wk, wn, wm]; omega
    · show W (inT a ++ markTok mSet :: inT b) + 4 ≤ _; rw [W_app, wm]; omega
    · show W (inT a ++ markTok _ :: inT b) + 4 ≤ _; rw [W_app, wm]; omega
    · show W (inT a ++ markTok mSeq :: inT b) + 4 ≤ _; rw [W_app, wm]; omega
  · obtain ⟨n1, d1, s1, w1⟩ := hk a (by simp)
    obtain ⟨n2, d2, s2, w2⟩ := hk b (by simp)
    obtain ⟨n3, d3, s3, w3⟩ := hk c (by simp)
    refine ⟨hnod, by show max (depthT a) (max (depthT b) (max (depthT c) 0)) + 1 ≤ _; omega, by show 1 + (sizeT a + (sizeT b + (sizeT c + 0))) ≤ 3 * manyM d + 1; omega, ?_⟩
    show _ ≤ 3 * bigM d + 17
    refine Nat.le_trans hW ?_
    show W (keyTok kIf :: (inT a ++ keyTok kThen :: (inT b ++ keyTok kElse :: inT c))) + 4 ≤ _
    rw [wk, W_app, wk, W_app, wk]; omega
theorem kidsOf_nonneg {k : Int} (h1 : 1 ≤ k) (h2 : k ≤ 13) : 0 ≤ kidsOf k := by
  have hc : k = 1 ∨ k = 2 ∨ k = 3 ∨ k = 4 ∨ k = 5 ∨ k = 6 ∨ k = 7 ∨ k = 8 ∨ k = 9 ∨ k = 10 ∨ k = 11 ∨ k = 12 ∨ k = 13 := by omega
  rcases hc with rfl | rfl | rfl | rfl | rfl | rfl | rfl | rfl | rfl | rfl | rfl | rfl | rfl <;> decide
theorem makeT_small : ∀ d s, Small d (makeT d s).1
  | 0, s => small_leaf _ _ (kindM_leaf s)
  | d + 1, s => by
    have hr := kindM_range false s
    refine small_node d _ _ _ hr.1 hr.2 ?_ (kidsM_all (makeT_small d) _ _)
    rw [kidsM_len]
    have := kidsOf_nonneg hr.1 hr.2
    omega
theorem madeT_small (l : List UInt8) : Small 6 (madeT l) := makeT_small 6 _
theorem Small.right {d : Nat} {t : Tm} (h : Small d t) (h1 : d ≤ 199) (h2 : manyM d ≤ 10000) : rightTm t = true := by
  unfold rightTm
  have := h.depth
  have := h.size
  rw [h.nodes, decide_eq_true (by omega), decide_eq_true (by omega)]; rfl
end Go.Proofs.YtchekgnacodolaaDoor.X
end
section
namespace Go.Proofs.YtchekgnacodolaaDoor.X
set_option linter.unusedSimpArgs false
set_option linter.unusedVariables false
theorem small_ne {d : Nat} {t : Tm} (h : Small d t) : toksT t ≠ [] := toks_ne t h.nodes
theorem small_W {d : Nat} {t : Tm} (h : Small d t) : W (toksT t) ≤ bigM d := Nat.le_trans (toks_le_in t) h.w
end Go.Proofs.YtchekgnacodolaaDoor.X
end

-- Joined by our own program (wip/tools/prune.py) out of the seat's texts, less what this claim doesn't name.
import Derived.Lib.ItoaNum
import Derived.Lib.ItoaMem
import Derived.Test.YtchekgnacodolaaGreatDoorJ6
import Derived.Test.YtchekgnacodolaaGreatDoorJ9
import Derived.Test.YtchekgnacodolaaGreatDoorJ10
import Derived.Test.YtchekgnacodolaaGreatDoorJ17
section
namespace Go.Proofs.YtchekgnacodolaaGreatDoor.X
open Go.RowKit Go.Proofs.YtchekgnacodolaaGreatDoorW.PrintWords
set_option linter.unusedSimpArgs false
set_option linter.unusedVariables false
def valD (acc : Nat) : List UInt8 → Nat
 | [] => acc
 | c :: r => valD (acc * 10 + (c.toNat - 48)) r
theorem valD_snoc (l : List UInt8) : ∀ (acc : Nat) (c : UInt8), valD acc (l ++ [c]) = valD acc l * 10 + (c.toNat - 48) := by
 induction l with
 | nil => intro acc c; rfl
 | cons b l ih => intro acc c; exact ih _ c
theorem valD_le (l : List UInt8) : ∀ acc, acc ≤ valD acc l := by
 induction l with
 | nil => intro acc; exact Nat.le_refl _
 | cons b l ih => intro acc; exact Nat.le_trans (by omega) (ih _)
theorem dec_val (n : Nat) : valD 0 (Lib.decDigits n) = n := by
 induction n using Nat.strongRecOn with
 | ind n ih =>
  rw [Lib.decDigits]
  split
  ·rename_i h
   show (0 * 10 + ((UInt8.ofNat (48 + n)).toNat - 48)) = n
   rw [UInt8.toNat_ofNat']; omega
  ·rename_i h
   rw [valD_snoc, ih (n / 10) (by omega), UInt8.toNat_ofNat']; omega
theorem dec_F (v : Nat) (h : v < 10000000000) : Lib.decDigits v = decF 10 v := (decF_eq 10 v (by omega) (by omega)).symm
theorem decF_len : ∀ k n, (decF k n).length ≤ k
 | 0, _ => by simp [decF]
 | k + 1, n => by
  unfold decF
  split
  ·simp
  ·have := decF_len k (n / 10)
   simp; omega
theorem uintM_ok (M : Nat) (hM : M ≤ 4294967295) : ∀ (l : List UInt8) (acc : Nat), l.all isDig = true → valD acc l ≤ M → Lib.parseUintM M acc l = .ok (valD acc l)
 | [], _, _, _ => rfl
 | c :: l, acc, h, hv => by
  simp only [List.all_cons, Bool.and_eq_true] at h
  have hc : 48 ≤ c.toNat ∧ c.toNat ≤ 57 := by simpa [isDig] using h.1
  have hle := valD_le l (acc * 10 + (c.toNat - 48))
  have hv' : valD (acc * 10 + (c.toNat - 48)) l ≤ M := hv
  rw [Lib.parseUintM, if_pos hc, if_neg (by omega), if_neg (by omega), uintM_ok M hM l _ h.2 hv']; rfl
theorem parse_dec (v : Nat) (h : v < 2147483648) : Lib.parseIntB 32 (Lib.decDigits v) = .ok (v : Int) := by
 have hF := dec_F v (by omega)
 have hd : (Lib.decDigits v).all isDig = true := by rw [hF]; exact decF_dig _ _
 have hne : Lib.decDigits v ≠ [] := by rw [hF]; exact decF_ne _ _
 have hv := dec_val v
 cases hl : Lib.decDigits v with
 | nil => exact absurd hl hne
 | cons c r =>
  rw [hl] at hd hv
  have hd' := hd
  simp only [List.all_cons, Bool.and_eq_true] at hd'
  have hc : 48 ≤ c.toNat ∧ c.toNat ≤ 57 := by simpa [isDig] using hd'.1
  unfold Lib.parseIntB
  simp only
  rw [if_neg (by omega)]
  unfold Lib.parseUintB
  rw [if_neg (by simp), uintM_ok _ (by decide) _ _ hd (by rw [hv]; exact Nat.le_trans (Nat.le_of_lt h) (by decide)), hv]
  have h31 : (2 : Nat) ^ (32 - 1) = 2147483648 := by decide
  simp only [h31]
  rw [if_neg (by omega), if_neg (by omega), if_neg (by omega)]
theorem num_dec (v : Nat) (h : v < 2147483648) : numOf (B (Lib.decDigits v)) = ((v : Int), true) := by
 unfold numOf
 rw [B_list, parse_dec v h]
 have : itoaF (v : Int) = Lib.decDigits v := by
  unfold itoaF
  rw [if_neg (by omega), decF_eq 20 _ (by omega) (by omega)]; rfl
 simp [this]
theorem num_iff (d : List UInt8) : ((numOf (B d)).2 = true ∧ 0 ≤ (numOf (B d)).1) ↔ ∃ v : Nat, v < 2147483648 ∧ d = Lib.decDigits v := by
 constructor
 ·rintro ⟨h, h0⟩
  unfold numOf at h h0
  cases hp : Lib.parseIntB 32 (B d).data.toList with
  | ok v =>
   rw [hp] at h h0
   simp only at h h0
   have e : itoaF v = d := by simpa [B_list] using h
   have hb := Lib.parseIntB_bounds hp
   have h31 : ((2 : Nat) ^ (32 - 1) : Nat) = 2147483648 := by decide
   rw [h31] at hb
   unfold itoaF at e
   rw [if_neg (by omega), decF_eq 20 _ (by omega) (by omega)] at e
   exact ⟨v.toNat, by omega, e.symm⟩
  | _ => rw [hp] at h; cases h
 ·rintro ⟨v, h, rfl⟩
  rw [num_dec v h]
  exact ⟨rfl, by simp⟩
def goodNum (l : List UInt8) : Bool := decide (1 ≤ l.length) && decide (l.length ≤ 10) && l.all isDig && decide (valD 0 l < 2147483648) && (Lib.decDigits (valD 0 l) == l)
theorem goodNum_iff (l : List UInt8) : goodNum l = true ↔ ∃ v : Nat, v < 2147483648 ∧ l = Lib.decDigits v := by
 constructor
 ·intro h
  simp only [goodNum, Bool.and_eq_true, decide_eq_true_eq, beq_iff_eq] at h
  exact ⟨valD 0 l, h.1.2, h.2.symm⟩
 ·rintro ⟨v, h, rfl⟩
  have hF := dec_F v (by omega)
  have h1 : (Lib.decDigits v).length ≤ 10 := by rw [hF]; exact decF_len _ _
  have h2 : 1 ≤ (Lib.decDigits v).length := by
   rw [hF]
   cases hc : decF 10 v with
   | nil => exact absurd hc (decF_ne _ _)
   | cons => simp
  have h3 : (Lib.decDigits v).all isDig = true := by rw [hF]; exact decF_dig _ _
  simp only [goodNum, Bool.and_eq_true, decide_eq_true_eq, beq_iff_eq, dec_val]
  exact ⟨⟨⟨⟨h2, h1⟩, h3⟩, h⟩, trivial⟩
theorem num_good (d : List UInt8) : ((numOf (B d)).2 && decide (0 ≤ (numOf (B d)).1)) = goodNum d := by
 rw [Bool.eq_iff_iff, Bool.and_eq_true, decide_eq_true_eq, num_iff, goodNum_iff]
theorem num_val {d : List UInt8} (h : goodNum d = true) : (numOf (B d)).1 = (valD 0 d : Int) := by
 obtain ⟨v, hv, rfl⟩ := (goodNum_iff d).1 h
 rw [num_dec v hv, dec_val]
end Go.Proofs.YtchekgnacodolaaGreatDoor.X
end
section
namespace Go.Proofs.YtchekgnacodolaaGreatDoor.X
set_option linter.unusedSimpArgs false
set_option linter.unusedVariables false
def wordB (nm : ByteArray) : Bool := nameL nm.data.toList && !isKey nm
def kidsOf : Int → Int
 | 1 => 0 | 2 => 0 | 3 => 1 | 4 => 2 | 5 => 2 | 6 => 3 | 7 => 2 | 8 => 1 | 9 => 2 | 10 => 1 | 11 => 2 | 12 => 2 | 13 => 2
 | _ => -1
def binderK (k : Int) : Bool := k == 3 || (k == 5 || k == 9)
def nodeB (k : Int) (nm : ByteArray) (n : Int) (c : Int) : Bool :=
 decide (1 ≤ k) && decide (k < 14) && decide (c = kidsOf k) && decide (0 ≤ n) && decide (n < 2147483648) && (decide (k = 1) || decide (n = 0)) &&
  (if binderK k = true ∨ k = 2 then wordB nm else if k = 12 then opWords.any (fun o => o.data.toList == nm.data.toList) else nm.data.toList == [])
mutual
def nodesT : Tm → Bool
 | ⟨k, nm, n, kids⟩ => nodeB k nm n kids.length && nodessT kids
def nodessT : List Tm → Bool
 | [] => true
 | t :: r => nodesT t && nodessT r
end
def keyTok (w : ByteArray) : TokT := ⟨3, w, 0⟩
def zqG (m : ByteArray) : TokT := ⟨4, m, 0⟩
def nameTok (n : ByteArray) : TokT := ⟨1, n, 0⟩
def numTok (n : Int) : TokT := ⟨2, B (itoaF n), n⟩
def withinT (k : Int) (ts : List TokT) : List TokT := if k = 1 ∨ k = 2 then ts else zqG mOpen :: ts ++ [zqG mClose]
def layT (k : Int) (nm : ByteArray) (n : Int) (w : List (List TokT)) : List TokT :=
 let w0 := w.getD 0 []; let w1 := w.getD 1 []; let w2 := w.getD 2 []
 if k = 1 then [numTok n]
 else if k = 2 then [nameTok nm]
 else if k = 3 then keyTok kFun :: nameTok nm :: zqG mArrow :: w0
 else if k = 4 then w0 ++ w1
 else if k = 5 then keyTok kLet :: nameTok nm :: zqG mEq :: (w0 ++ keyTok kIn :: w1)
 else if k = 6 then keyTok kIf :: (w0 ++ keyTok kThen :: (w1 ++ keyTok kElse :: w2))
 else if k = 7 then keyTok kWhile :: (w0 ++ keyTok kDo :: w1)
 else if k = 8 then keyTok kRaise :: w0
 else if k = 9 then keyTok kTry :: (w0 ++ keyTok kWith :: nameTok nm :: zqG mArrow :: w1)
 else if k = 10 then zqG mGet :: w0
 else if k = 11 then w0 ++ zqG mSet :: w1
 else if k = 12 then w0 ++ zqG nm :: w1
 else w0 ++ zqG mSeq :: w1
mutual
def toksT : Tm → List TokT
 | ⟨k, nm, n, kids⟩ => layT k nm n (withinsT kids)
def withinsT : List Tm → List (List TokT)
 | [] => []
 | t :: r => withinT t.f0 (toksT t) :: withinsT r
end
def inT (t : Tm) : List TokT := withinT t.f0 (toksT t)
def Ev (f : Nat → PR) (r : Option (Tm × List TokT)) : Prop := ∃ K, ∀ k, K ≤ k → f k = some r
theorem Ev.step {m : Mode} {s : List TokT} {r : Option (Tm × List TokT)} (h : Ev (fun k => run (k + 1) m s) r) : Ev (fun k => run k m s) r := by
 obtain ⟨K, h⟩ := h
 refine ⟨K + 1, fun k hk => ?_⟩
 obtain ⟨j, rfl⟩ : ∃ j, k = j + 1 := ⟨k - 1, by omega⟩
 exact h j (by omega)
theorem Ev.now (r : Option (Tm × List TokT)) : Ev (fun _ => some r) r := ⟨0, fun _ _ => rfl⟩
theorem Ev.then_ {f : Nat → PR} {g : Nat → Tm → List TokT → PR} {t : Tm} {s : List TokT} {r : Option (Tm × List TokT)} (h : Ev f (some (t, s))) (hg : Ev (fun k => g k t s) r) : Ev (fun k => (f k).then_ (g k)) r := by
 obtain ⟨K, h⟩ := h
 obtain ⟨K', h'⟩ := hg
 refine ⟨max K K', fun k hk => ?_⟩
 simp only [h k (by omega)]
 exact h' k (by omega)
theorem Ev.fail {f : Nat → PR} {g : Nat → Tm → List TokT → PR} (h : Ev f none) : Ev (fun k => (f k).then_ (g k)) none := by
 obtain ⟨K, h⟩ := h
 refine ⟨K, fun k hk => ?_⟩
 simp only [h k hk]; rfl
theorem Ev.key {f : Nat → PR} {g : Nat → Tm → List TokT → PR} {m : ByteArray} {t : Tm} {s : List TokT} {r : Option (Tm × List TokT)} (h : Ev f (some (t, s))) (hm : isL s m = true) (hg : Ev (fun k => g k t s.tail) r) : Ev (fun k => (f k).key m (g k)) r :=
 h.then_ (by simp only [if_pos hm]; exact hg)
theorem Ev.name {g : Nat → ByteArray → List TokT → PR} {m : ByteArray} {s : List TokT} {nm : ByteArray} {q : List TokT} {r : Option (Tm × List TokT)} (hb : boundL s m = some (nm, q)) (hg : Ev (fun k => g k nm q) r) : Ev (fun k => PR.name (boundL s m) (g k)) r := by
 rw [hb]; exact hg
theorem Ev.pos {c : Prop} [Decidable c] {f g : Nat → PR} {r : Option (Tm × List TokT)} (hc : c) (h : Ev f r) : Ev (fun k => if c then f k else g k) r := by simp only [if_pos hc]; exact h
theorem Ev.neg {c : Prop} [Decidable c] {f g : Nat → PR} {r : Option (Tm × List TokT)} (hc : ¬ c) (h : Ev g r) : Ev (fun k => if c then f k else g k) r := by simp only [if_neg hc]; exact h
theorem Ev.parse {s : List TokT} {r : Option (Tm × List TokT)} (h : Ev (fun k => run k .all s) r) : parseL s = r := by
 obtain ⟨K, h⟩ := h
 exact parseL_of (h K (Nat.le_refl _))
theorem isL_cons (x : TokT) (r : List TokT) (m : ByteArray) : isL (x :: r) m = (decide (3 ≤ x.f0) && (x.f1.data.toList == m.data.toList)) := rfl
theorem isL_key (w : ByteArray) (r : List TokT) (m : ByteArray) : isL (keyTok w :: r) m = (w.data.toList == m.data.toList) := by simp [isL_cons, keyTok]
theorem isL_mark (w : ByteArray) (r : List TokT) (m : ByteArray) : isL (zqG w :: r) m = (w.data.toList == m.data.toList) := by simp [isL_cons, zqG]
theorem isL_low {x : TokT} (h : x.f0 = 1 ∨ x.f0 = 2) (r : List TokT) (m : ByteArray) : isL (x :: r) m = false := by
 rw [isL_cons, decide_eq_false (by omega), Bool.false_and]
structure Stops (s : List TokT) : Prop where
 b : beginsL s = false
 set : isL s mSet = false
 ops : opWords.find? (isL s) = none
inductive HeadT : List TokT → Prop
 | low (x : TokT) (r : List TokT) (h : x.f0 = 1 ∨ x.f0 = 2) : HeadT (x :: r)
 | mark (r : List TokT) : HeadT (zqG mOpen :: r)
 | get (r : List TokT) : HeadT (zqG mGet :: r)
theorem HeadT.append {w : List TokT} (h : HeadT w) (s : List TokT) : HeadT (w ++ s) := by
 cases h with
 | low x r h => exact .low x (r ++ s) h
 | mark r => exact .mark (r ++ s)
 | get r => exact .get (r ++ s)
def keyHeads : List ByteArray := [kFun, kLet, kIf, kWhile, kRaise, kTry]
theorem HeadT.nokey {w : List TokT} (h : HeadT w) {m : ByteArray} (hm : m ∈ keyHeads) : ¬ isL w m = true := by
 have key : keyHeads.all (fun m => !(mOpen.data.toList == m.data.toList) && !(mGet.data.toList == m.data.toList)) = true := by decide +kernel
 have := List.all_eq_true.1 key m hm
 simp only [Bool.and_eq_true, Bool.not_eq_true'] at this
 cases h with
 | low x r h => rw [isL_low h]; decide
 | mark r => rw [isL_mark, this.1]; decide
 | get r => rw [isL_mark, this.2]; decide
abbrev Reads_ (m : Mode) (s : List TokT) (r : Option (Tm × List TokT)) : Prop := Ev (fun k => run k m s) r
theorem parts_of {w : List TokT} {t : Tm} {s : List TokT} (h : Reads_ .part w (some (t, s))) (hs : beginsL s = false) : Reads_ .parts w (some (t, s)) :=
 Ev.step (Ev.then_ h (Ev.step (Ev.neg (by rw [hs]; decide) (Ev.now _))))
theorem plain_of {w : List TokT} {t : Tm} {s : List TokT} (h : Reads_ .parts w (some (t, s))) (hs : Stops s) : Reads_ .plain w (some (t, s)) :=
 Ev.step (Ev.then_ h (Ev.neg (by rw [hs.set]; decide) (by rw [hs.ops]; exact Ev.now _)))
theorem one_of {w : List TokT} {r : Option (Tm × List TokT)} (hw : HeadT w) (h : Reads_ .plain w r) : Reads_ .one w r :=
 Ev.step (Ev.neg (hw.nokey (by simp [keyHeads])) (Ev.neg (hw.nokey (by simp [keyHeads])) (Ev.neg (hw.nokey (by simp [keyHeads])) (Ev.neg (hw.nokey (by simp [keyHeads])) (Ev.neg (hw.nokey (by simp [keyHeads])) (Ev.neg (hw.nokey (by simp [keyHeads])) h))))))
theorem one_part {w : List TokT} {t : Tm} {s : List TokT} (hw : HeadT w) (h : Reads_ .part w (some (t, s))) (hs : Stops s) : Reads_ .one w (some (t, s)) :=
 one_of hw (plain_of (parts_of h hs.b) hs)
theorem begins_key (w : ByteArray) (r : List TokT) (h1 : (w.data.toList == [40]) = false) (h2 : (w.data.toList == [33]) = false) : beginsL (keyTok w :: r) = false := by
 unfold beginsL
 rw [isL_key, isL_key, show (⟨#[40]⟩ : ByteArray).data.toList = [40] from rfl, show (⟨#[33]⟩ : ByteArray).data.toList = [33] from rfl, h1, h2]
 simp [peekL, keyTok]
theorem begins_mark (w : ByteArray) (r : List TokT) (h1 : (w.data.toList == [40]) = false) (h2 : (w.data.toList == [33]) = false) : beginsL (zqG w :: r) = false := by
 unfold beginsL
 rw [isL_mark, isL_mark, show (⟨#[40]⟩ : ByteArray).data.toList = [40] from rfl, show (⟨#[33]⟩ : ByteArray).data.toList = [33] from rfl, h1, h2]
 simp [peekL, zqG]
theorem find_none {s : List TokT} (h : ∀ o ∈ opWords, isL s o = false) : opWords.find? (isL s) = none := List.find?_eq_none.2 fun o ho => by rw [h o ho]; decide
theorem Stops.nil : Stops [] := ⟨beginsL_nil, isL_nil _, find_none fun o _ => isL_nil o⟩
theorem stops_of_list (ws : List ByteArray) (h : ws.all (fun w => !(w.data.toList == [40]) && !(w.data.toList == [33]) && !(w.data.toList == mSet.data.toList) && opWords.all fun o => !(w.data.toList == o.data.toList)) = true) (w : ByteArray) (hw : w ∈ ws) :
  (∀ r, Stops (keyTok w :: r)) ∧ ∀ r, Stops (zqG w :: r) := by
 have := List.all_eq_true.1 h w hw
 simp only [Bool.and_eq_true, Bool.not_eq_true', List.all_eq_true] at this
 obtain ⟨⟨⟨h1, h2⟩, h3⟩, h4⟩ := this
 exact ⟨fun r => ⟨begins_key w r h1 h2, by rw [isL_key, h3], find_none fun o ho => by rw [isL_key, h4 o ho]⟩, fun r => ⟨begins_mark w r h1 h2, by rw [isL_mark, h3], find_none fun o ho => by rw [isL_mark, h4 o ho]⟩⟩
def stopWords : List ByteArray := [kIn, kThen, kElse, kDo, kWith, mClose, mSeq]
theorem stops_mark {w : ByteArray} (hw : w ∈ stopWords) (r : List TokT) : Stops (zqG w :: r) := (stops_of_list stopWords (by decide +kernel) w hw).2 r
theorem part_paren {w : List TokT} {t : Tm} {s : List TokT} (h : Reads_ .all w (some (t, s))) (hs : isL s mClose = true) : Reads_ .part (zqG mOpen :: w) (some (t, s.tail)) :=
 Ev.step (Ev.neg (by rw [isL_mark]; decide) (Ev.pos (by rw [isL_mark]; decide) (Ev.key h hs (Ev.now _))))
structure NodeR (k : Int) (nm : ByteArray) (n : Int) (c : Int) : Prop where
 k1 : 1 ≤ k
 k2 : k < 14
 kids : c = kidsOf k
 n0 : 0 ≤ n
 n1 : n < 2147483648
 nz : k = 1 ∨ n = 0
 nm : if binderK k = true ∨ k = 2 then wordB nm = true else if k = 12 then nm ∈ opWords else nm = noName
theorem ba_eq {a b : ByteArray} (h : a.data.toList = b.data.toList) : a = b := by rw [← B_of a, ← B_of b, h]
theorem nodeB_iff (k : Int) (nm : ByteArray) (n : Int) (c : Int) : nodeB k nm n c = true ↔ NodeR k nm n c := by
 unfold nodeB
 simp only [Bool.and_eq_true, Bool.or_eq_true, decide_eq_true_eq]
 have hn : (if binderK k = true ∨ k = 2 then wordB nm else if k = 12 then opWords.any (fun o => o.data.toList == nm.data.toList) else nm.data.toList == []) = true ↔ (if binderK k = true ∨ k = 2 then wordB nm = true else if k = 12 then nm ∈ opWords else nm = noName) := by
  split
  ·exact Iff.rfl
  ·split
   ·rw [List.any_eq_true]
    constructor
    ·rintro ⟨o, ho, e⟩; rw [← ba_eq (eq_of_beq e)]; exact ho
    ·exact fun h => ⟨nm, h, beq_self_eq_true _⟩
   ·rw [beq_iff_eq]
    exact ⟨fun h => ba_eq h, fun h => by rw [h]⟩
 rw [hn]
 exact ⟨fun ⟨⟨⟨⟨⟨⟨a, b⟩, c⟩, d⟩, e⟩, f⟩, g⟩ => ⟨a, b, c, d, e, f, g⟩, fun ⟨a, b, c, d, e, f, g⟩ => ⟨⟨⟨⟨⟨⟨a, b⟩, c⟩, d⟩, e⟩, f⟩, g⟩⟩
end Go.Proofs.YtchekgnacodolaaGreatDoor.X
end
section
namespace Go.Proofs.YtchekgnacodolaaGreatDoor.X
set_option linter.unusedSimpArgs false
set_option linter.unusedVariables false
theorem itoaF_dec {n : Int} (h0 : 0 ≤ n) (h1 : n < 2147483648) : itoaF n = Lib.decDigits n.toNat := by
 unfold itoaF
 rw [if_neg (by omega), decF_eq 20 _ (by omega) (by omega)]
theorem name_right {t : TokT} (h : rightT t = true) (h1 : t.f0 = 1) : wordB t.f1 = true ∧ t = nameTok t.f1 := by
 obtain ⟨f0, f1, f2⟩ := t
 simp only at h1
 subst h1
 unfold rightT at h
 dsimp only at h
 rw [if_pos (show (1 : Int) = 1 ∨ (1 : Int) = 3 from .inl rfl)] at h
 simp only [Bool.and_eq_true, beq_iff_eq] at h
 obtain ⟨⟨h2, h3⟩, rfl⟩ := h
 refine ⟨?_, rfl⟩
 unfold wordTok at h2 h3
 rw [B_of] at h2 h3
 unfold wordB
 by_cases hk : isKey f1 = true
 ·rw [if_pos hk] at h3; cases h3
 ·rw [if_neg hk] at h2; simp only at h2; rw [h2]; simpa using hk
theorem num_right2 {t : TokT} (h : rightT t = true) (h1 : t.f0 = 2) : 0 ≤ t.f2 ∧ t.f2 < 2147483648 ∧ t = numTok t.f2 := by
 obtain ⟨f0, f1, f2⟩ := t
 simp only at h1
 subst h1
 unfold rightT at h
 dsimp only at h
 rw [if_neg (by decide), if_pos rfl] at h
 simp only [Bool.and_eq_true, beq_iff_eq, decide_eq_true_eq] at h
 obtain ⟨⟨h2, h3⟩, h4⟩ := h
 have e := B_of f1
 rw [← e] at h2 h3 h4
 obtain ⟨v, hv, hd⟩ := (num_iff f1.data.toList).1 ⟨h2, h3⟩
 rw [hd, num_dec v hv] at h4
 simp only at h4
 subst h4
 refine ⟨by simp, by simp; omega, ?_⟩
 unfold numTok
 simp only
 rw [itoaF_dec (by omega) (by omega), Int.toNat_natCast, ← hd, e]
def Bal (d : Int) (ts : List TokT) : Prop := ∀ n m : Int, ∃ m', ts.foldl nestStep (n, m) = (n, m') ∧ m ≤ m' ∧ m' ≤ max m (n + d)
theorem Bal.nil {d : Int} (h : 0 ≤ d) : Bal d [] := fun n m => ⟨m, rfl, Int.le_refl _, by omega⟩
theorem Bal.cons {d : Int} {x : TokT} {a : List TokT} (hx : ∀ n m, nestStep (n, m) x = (n, m) ∨ nestStep (n, m) x = (n, max m n)) (hd : 0 ≤ d) (k : Bal d a) : Bal d (x :: a) := by
 intro n m
 rw [List.foldl_cons]
 rcases hx n m with e | e
 ·rw [e]; exact k n m
 ·rw [e]
  obtain ⟨m2, e2, h3, h4⟩ := k n (max m n)
  exact ⟨m2, e2, by omega, by omega⟩
theorem Bal.mono {d d' : Int} {a : List TokT} (h : Bal d a) (hd : d ≤ d') : Bal d' a := fun n m => by
 obtain ⟨m1, e1, h1, h2⟩ := h n m
 exact ⟨m1, e1, h1, by omega⟩
theorem size_pos (t : Tm) : 1 ≤ sizeT t := by cases t; rw [sizeT]; omega
end Go.Proofs.YtchekgnacodolaaGreatDoor.X
end
section
namespace Go.Proofs.YtchekgnacodolaaGreatDoor.X
set_option linter.unusedSimpArgs false
set_option linter.unusedVariables false
def W : List TokT → Nat
 | [] => 0
 | t :: r => t.f1.size + 1 + W r
theorem W_app (a b : List TokT) : W (a ++ b) = W a + W b := by
 induction a with
 | nil => simp [W]
 | cons x a ih => rw [List.cons_append, W, W, ih]; omega
theorem W_cons (x : TokT) (r : List TokT) : W (x :: r) = x.f1.size + 1 + W r := rfl
theorem W_in (t : Tm) : W (inT t) ≤ W (toksT t) + 4 := by
 unfold inT withinT
 split
 ·omega
 ·rw [W_app, W_cons]
  have e1 : (zqG mOpen).f1.size = 1 := rfl
  have e2 : W [zqG mClose] = 2 := rfl
  omega
structure Good (c : Nat) (t : Tm) : Prop where
 nodes : nodesT t = true
 w : W (inT t) + 4 ≤ 4 * c
 n : sizeT t + 1 ≤ c
def Holds (a : PR) (Q : Tm → List TokT → Prop) : Prop := ∀ t s', a = some (some (t, s')) → Q t s'
theorem Holds.fail (Q : Tm → List TokT → Prop) : Holds (some none) Q := fun _ _ h => by cases h
theorem Holds.none (Q : Tm → List TokT → Prop) : Holds Option.none Q := fun _ _ h => by cases h
theorem Holds.ret {Q : Tm → List TokT → Prop} {t : Tm} {s : List TokT} (h : Q t s) : Holds (PR.ret t s) Q := fun _ _ e => by injection e with e; injection e with e; injection e with e1 e2; subst e1 e2; exact h
theorem Holds.then_ {Q Q' : Tm → List TokT → Prop} {a : PR} {f : Tm → List TokT → PR} (h : Holds a Q) (hf : ∀ t s, Q t s → Holds (f t s) Q') : Holds (a.then_ f) Q' := by
 intro t s' e
 cases a with
 | none => cases e
 | some x =>
  cases x with
  | none => cases e
  | some p => exact hf p.1 p.2 (h _ _ rfl) t s' e
theorem Holds.ite {Q : Tm → List TokT → Prop} {c : Prop} [Decidable c] {a b : PR} (h : c → Holds a Q) (k : ¬ c → Holds b Q) : Holds (if c then a else b) Q := by
 split
 ·exact h ‹_›
 ·exact k ‹_›
theorem isL_w {s : List TokT} {m : ByteArray} (h : isL s m = true) (hr : s.all rightT = true) : s.tail.all rightT = true ∧ W s = m.size + 1 + W s.tail := by
 obtain ⟨x, r, rfl⟩ := isL_ne h
 rw [isL_cons, Bool.and_eq_true] at h
 have e := ba_eq (eq_of_beq h.2)
 rw [List.all_cons, Bool.and_eq_true] at hr
 refine ⟨hr.2, ?_⟩
 rw [W_cons, e]; rfl
theorem Holds.key {Q Q' : Tm → List TokT → Prop} {a : PR} {m : ByteArray} {f : Tm → List TokT → PR} (h : Holds a Q) (hf : ∀ t s, Q t s → isL s m = true → Holds (f t s.tail) Q') : Holds (a.key m f) Q' :=
 h.then_ fun t s q => Holds.ite (fun c => hf t s q c) fun _ => Holds.fail _
theorem Holds.name {Q' : Tm → List TokT → Prop} {s : List TokT} {m : ByteArray} {f : ByteArray → List TokT → PR} (hr : s.all rightT = true) (hf : ∀ n s', wordB n = true → s'.all rightT = true → W s = n.size + 1 + (m.size + 1) + W s' → Holds (f n s') Q') : Holds (PR.name (boundL s m) f) Q' := by
 unfold boundL
 split
 ·rename_i h1
  split
  ·rename_i h2
   obtain ⟨x, r, rfl⟩ := peek_ne (s := s) (by rw [h1]; decide)
   rw [List.all_cons, Bool.and_eq_true] at hr
   obtain ⟨h3, h4⟩ := isL_w h2 hr.2
   refine hf x.f1 _ (name_right hr.1 h1).1 h3 ?_
   rw [W_cons]
   simp only [List.tail_cons] at h4 ⊢
   omega
  ·exact Holds.fail _
 ·exact Holds.fail _
def Q0 (c0 : Nat) (s : List TokT) (t : Tm) (s' : List TokT) : Prop := s'.all rightT = true ∧ W s' ≤ W s ∧ Good (c0 + (W s - W s')) t
theorem word_nodes1 {nm : ByteArray} {x : Tm} (hn : wordB nm = true) (h : nodesT x = true) : nodesT (tm 3 nm [x]) = true := by
 show (nodeB 3 nm 0 1 && (nodesT x && true)) = true
 rw [h, (nodeB_iff 3 nm 0 1).2 ⟨by decide, by decide, rfl, by decide, by decide, .inr rfl, by rw [if_pos (by decide)]; exact hn⟩]; rfl
theorem word_nodes2 {nm : ByteArray} {x y : Tm} (k : Int) (hk : k = 5 ∨ k = 9) (hn : wordB nm = true) (h : nodesT x = true) (h' : nodesT y = true) : nodesT (tm k nm [x, y]) = true := by
 show (nodeB k nm 0 2 && (nodesT x && (nodesT y && true))) = true
 rcases hk with rfl | rfl
 ·rw [h, h', (nodeB_iff 5 nm 0 2).2 ⟨by decide, by decide, rfl, by decide, by decide, .inr rfl, by rw [if_pos (by decide)]; exact hn⟩]; rfl
 ·rw [h, h', (nodeB_iff 9 nm 0 2).2 ⟨by decide, by decide, rfl, by decide, by decide, .inr rfl, by rw [if_pos (by decide)]; exact hn⟩]; rfl
theorem plain_nodes1 {x : Tm} (k : Int) (hk : k = 8 ∨ k = 10) (h : nodesT x = true) : nodesT (tm k noName [x]) = true := by
 show (nodeB k noName 0 1 && (nodesT x && true)) = true
 rcases hk with rfl | rfl <;> rw [h, (nodeB_iff _ noName 0 1).2 ⟨by decide, by decide, rfl, by decide, by decide, .inr rfl, by rw [if_neg (by decide), if_neg (by decide)]⟩] <;> rfl
theorem plain_nodes2 {x y : Tm} (k : Int) (hk : k = 4 ∨ k = 7 ∨ k = 11 ∨ k = 13) (h : nodesT x = true) (h' : nodesT y = true) : nodesT (tm k noName [x, y]) = true := by
 show (nodeB k noName 0 2 && (nodesT x && (nodesT y && true))) = true
 rcases hk with rfl | rfl | rfl | rfl <;> rw [h, h', (nodeB_iff _ noName 0 2).2 ⟨by decide, by decide, rfl, by decide, by decide, .inr rfl, by rw [if_neg (by decide), if_neg (by decide)]⟩] <;> rfl
theorem op_nodes {nm : ByteArray} {x y : Tm} (hn : nm ∈ opWords) (h : nodesT x = true) (h' : nodesT y = true) : nodesT (tm 12 nm [x, y]) = true := by
 show (nodeB 12 nm 0 2 && (nodesT x && (nodesT y && true))) = true
 rw [h, h', (nodeB_iff 12 nm 0 2).2 ⟨by decide, by decide, rfl, by decide, by decide, .inr rfl, by rw [if_neg (by decide), if_pos rfl]; exact hn⟩]; rfl
theorem if_nodes {x y z : Tm} (h : nodesT x = true) (h' : nodesT y = true) (h'' : nodesT z = true) : nodesT (tm 6 noName [x, y, z]) = true := by
 show (nodeB 6 noName 0 3 && (nodesT x && (nodesT y && (nodesT z && true)))) = true
 rw [h, h', h'', (nodeB_iff 6 noName 0 3).2 ⟨by decide, by decide, rfl, by decide, by decide, .inr rfl, by rw [if_neg (by decide), if_neg (by decide)]⟩]; rfl
theorem size1 (k : Int) (nm : ByteArray) (x : Tm) : sizeT (tm k nm [x]) = 1 + sizeT x := rfl
theorem size2 (k : Int) (nm : ByteArray) (x y : Tm) : sizeT (tm k nm [x, y]) = 1 + (sizeT x + sizeT y) := rfl
theorem size3 (k : Int) (nm : ByteArray) (x y z : Tm) : sizeT (tm k nm [x, y, z]) = 1 + (sizeT x + (sizeT y + sizeT z)) := rfl
theorem wk (w : ByteArray) (r : List TokT) : W (keyTok w :: r) = w.size + 1 + W r := rfl
theorem wm (w : ByteArray) (r : List TokT) : W (zqG w :: r) = w.size + 1 + W r := rfl
theorem wn (w : ByteArray) (r : List TokT) : W (nameTok w :: r) = w.size + 1 + W r := rfl
theorem num_nodes {n : Int} (h0 : 0 ≤ n) (h1 : n < 2147483648) : nodesT ⟨1, noName, n, []⟩ = true := by
 show (nodeB 1 noName n 0 && true) = true
 rw [(nodeB_iff 1 noName n 0).2 ⟨by decide, by decide, rfl, h0, h1, .inl rfl, by rw [if_neg (by decide), if_neg (by decide)]⟩]; rfl
theorem var_nodes {nm : ByteArray} (hn : wordB nm = true) : nodesT (tm 2 nm []) = true := by
 show (nodeB 2 nm 0 0 && true) = true
 rw [(nodeB_iff 2 nm 0 0).2 ⟨by decide, by decide, rfl, by decide, by decide, .inr rfl, by rw [if_pos (by decide)]; exact hn⟩]; rfl
theorem word_size {nm : ByteArray} (h : wordB nm = true) : 1 ≤ nm.size := by
 unfold wordB at h
 rw [Bool.and_eq_true] at h
 rw [size_len]
 cases hd : nm.data.toList with
 | nil => rw [hd] at h; simp [nameL] at h
 | cons b r => simp
theorem num_size {n : Int} (h0 : 0 ≤ n) (h1 : n < 2147483648) : 1 ≤ (numTok n).f1.size := by
 have : (numTok n).f1.size = (itoaF n).length := zqM _
 rw [this]
 unfold itoaF
 rw [if_neg (by omega)]
 have := decF_ne 19 n.toNat
 cases hd : decF 20 n.toNat with
 | nil => exact absurd hd this
 | cons b r => simp
def Pre (c0 : Nat) : Mode → Prop
 | .apps t => Good c0 t
 | _ => c0 = 0
theorem run_good : ∀ k m s c0, s.all rightT = true → Pre c0 m → Holds (run k m s) (Q0 c0 s)
 | 0, m, s, c0, _, _ => Holds.none _
 | k + 1, m, s, c0, hr, hp => by
  have ih : ∀ (m : Mode) (s : List TokT), s.all rightT = true → Pre 0 m → Holds (run k m s) (Q0 0 s) := fun m s h h' => run_good k m s 0 h h'
  have sz : mOpen.size = 1 ∧ mClose.size = 1 ∧ mGet.size = 1 ∧ mSet.size = 2 ∧ mSeq.size = 1 ∧ mArrow.size = 2 ∧ mEq.size = 1 := ⟨rfl, rfl, rfl, rfl, rfl, rfl, rfl⟩
  have sk : kFun.size = 3 ∧ kLet.size = 3 ∧ kIn.size = 2 ∧ kIf.size = 2 ∧ kThen.size = 4 ∧ kElse.size = 4 ∧ kWhile.size = 5 ∧ kDo.size = 2 ∧ kRaise.size = 5 ∧ kTry.size = 3 ∧ kWith.size = 4 := ⟨rfl, rfl, rfl, rfl, rfl, rfl, rfl, rfl, rfl, rfl, rfl⟩
  obtain ⟨z1, z2, z3, z4, z5, z6, z7⟩ := sz
  obtain ⟨k1, k2, k3, k4, k5, k6, k7, k8, k9, k10, k11⟩ := sk
  have P1 : ∀ (nm : ByteArray) (n : Int) (kk : Int) (kids : List Tm) (c : Nat), W (toksT ⟨kk, nm, n, kids⟩) + 8 ≤ 4 * c → W (inT ⟨kk, nm, n, kids⟩) + 4 ≤ 4 * c := fun nm n kk kids c h => by have := W_in ⟨kk, nm, n, kids⟩; omega
  cases m with
  | part =>
   obtain rfl : c0 = 0 := hp
   refine Holds.ite (fun c => ?_) fun _ => Holds.ite (fun c => ?_) fun _ => Holds.ite (fun c => ?_) fun _ => Holds.ite (fun c => ?_) fun _ => Holds.fail _
   ·obtain ⟨r1, w1⟩ := isL_w c hr
    refine (ih .part _ r1 rfl).then_ fun t s1 ⟨a1, a2, a3⟩ => Holds.ret ⟨a1, by omega, plain_nodes1 10 (.inr rfl) a3.nodes, P1 _ _ _ _ _ ?_, ?_⟩
    ·show W (zqG mGet :: inT t) + 8 ≤ _
     have := a3.w
     rw [wm]; omega
    ·have := a3.n
     rw [size1]; omega
   ·obtain ⟨r1, w1⟩ := isL_w c hr
    refine (ih .all _ r1 rfl).key fun t s1 ⟨a1, a2, a3⟩ c2 => ?_
    obtain ⟨r2, w2⟩ := isL_w c2 a1
    exact Holds.ret ⟨r2, by omega, a3.nodes, by have := a3.w; omega, by have := a3.n; omega⟩
   ·obtain ⟨x, r, rfl⟩ := peek_ne (s := s) (by rw [c]; decide)
    rw [List.all_cons, Bool.and_eq_true] at hr
    obtain ⟨hw, he⟩ := name_right hr.1 c
    have hs := word_size hw
    refine Holds.ret ⟨hr.2, by rw [W_cons]; exact Nat.le_add_left _ _, var_nodes hw, ?_, ?_⟩
    ·show W [nameTok x.f1] + 4 ≤ _
     rw [wn, W_cons, List.tail_cons]
     simp only [W]
     omega
    ·show 1 + 1 ≤ _
     rw [W_cons, List.tail_cons]; omega
   ·obtain ⟨x, r, rfl⟩ := peek_ne (s := s) (by rw [c]; decide)
    rw [List.all_cons, Bool.and_eq_true] at hr
    obtain ⟨h0, h1, he⟩ := num_right2 hr.1 c
    have hs := num_size h0 h1
    rw [← he] at hs
    refine Holds.ret ⟨hr.2, by rw [W_cons]; exact Nat.le_add_left _ _, num_nodes h0 h1, ?_, ?_⟩
    ·show W [numTok x.f2] + 4 ≤ _
     rw [← he]
     rw [W_cons, W_cons, List.tail_cons]
     simp only [W]
     omega
    ·show 1 + 1 ≤ _
     rw [W_cons, List.tail_cons]; omega
  | apps t =>
   have hg : Good c0 t := hp
   refine Holds.ite (fun c => ?_) fun _ => Holds.ret ⟨hr, Nat.le_refl _, by rw [Nat.sub_self, Nat.add_zero]; exact hg⟩
   refine (ih .part s hr rfl).then_ fun u s1 ⟨a1, a2, a3⟩ => ?_
   have hgood : Good (c0 + (W s - W s1)) (tm 4 noName [t, u]) := by
    refine ⟨plain_nodes2 4 (.inl rfl) hg.nodes a3.nodes, P1 _ _ _ _ _ ?_, ?_⟩
    ·show W (inT t ++ inT u) + 8 ≤ _
     have h1 := hg.w
     have h2 := a3.w
     rw [W_app]; omega
    ·have h1 := hg.n
     have h2 := a3.n
     have h3 := a3.w
     have h4 := hg.w
     rw [size2]
     omega
   have := run_good k (.apps (tm 4 noName [t, u])) s1 _ a1 hgood
   intro v s2 e
   obtain ⟨b1, b2, b3⟩ := this v s2 e
   refine ⟨b1, by omega, ?_⟩
   have e2 : c0 + (W s - W s1) + (W s1 - W s2) = c0 + (W s - W s2) := by omega
   rw [← e2]; exact b3
  | parts =>
   obtain rfl : c0 = 0 := hp
   refine (ih .part s hr rfl).then_ fun u s1 ⟨a1, a2, a3⟩ => ?_
   have := run_good k (.apps u) s1 _ a1 a3
   intro v s2 e
   obtain ⟨b1, b2, b3⟩ := this v s2 e
   refine ⟨b1, by omega, ?_⟩
   have e2 : 0 + (W s - W s1) + (W s1 - W s2) = 0 + (W s - W s2) := by omega
   rw [← e2]; exact b3
  | plain =>
   obtain rfl : c0 = 0 := hp
   refine (ih .parts s hr rfl).then_ fun t s1 ⟨a1, a2, a3⟩ => Holds.ite (fun c => ?_) fun _ => ?_
   ·obtain ⟨r1, w1⟩ := isL_w c a1
    refine (ih .one _ r1 rfl).then_ fun u s2 ⟨b1, b2, b3⟩ => Holds.ret ⟨b1, by omega, plain_nodes2 11 (by simp) a3.nodes b3.nodes, P1 _ _ _ _ _ ?_, ?_⟩
    ·show W (inT t ++ zqG mSet :: inT u) + 8 ≤ _
     have h1 := a3.w
     have h2 := b3.w
     rw [W_app, wm]; omega
    ·have h1 := a3.n
     have h2 := b3.n
     rw [size2]; omega
   ·cases hf : opWords.find? (isL s1) with
    | none => exact Holds.ret ⟨a1, a2, a3⟩
    | some o =>
     obtain ⟨r1, w1⟩ := isL_w (List.find?_some hf) a1
     have ho := List.mem_of_find?_eq_some hf
     have hos : o.size = 1 := by simp only [opWords, List.mem_cons, List.not_mem_nil, or_false] at ho; rcases ho with rfl | rfl | rfl | rfl | rfl <;> rfl
     refine (ih .parts _ r1 rfl).then_ fun u s2 ⟨b1, b2, b3⟩ => Holds.ret ⟨b1, by omega, op_nodes ho a3.nodes b3.nodes, P1 _ _ _ _ _ ?_, ?_⟩
     ·show W (inT t ++ zqG o :: inT u) + 8 ≤ _
      have h1 := a3.w
      have h2 := b3.w
      rw [W_app, wm]; omega
     ·have h1 := a3.n
      have h2 := b3.n
      rw [size2]; omega
  | one =>
   obtain rfl : c0 = 0 := hp
   refine Holds.ite (fun c => ?_) fun _ => Holds.ite (fun c => ?_) fun _ => Holds.ite (fun c => ?_) fun _ => Holds.ite (fun c => ?_) fun _ => Holds.ite (fun c => ?_) fun _ => Holds.ite (fun c => ?_) fun _ => ih .plain s hr rfl
   ·obtain ⟨r1, w1⟩ := isL_w c hr
    refine Holds.name r1 fun n s1 hn r2 w2 => (ih .all _ r2 rfl).then_ fun x s2 ⟨b1, b2, b3⟩ => Holds.ret ⟨b1, by omega, word_nodes1 hn b3.nodes, P1 _ _ _ _ _ ?_, ?_⟩
    ·show W (keyTok kFun :: nameTok n :: zqG mArrow :: inT x) + 8 ≤ _
     have h2 := b3.w
     rw [wk, wn, wm]; omega
    ·have h2 := b3.n
     rw [size1]; omega
   ·obtain ⟨r1, w1⟩ := isL_w c hr
    refine Holds.name r1 fun n s1 hn r2 w2 => (ih .all _ r2 rfl).key fun x s2 ⟨b1, b2, b3⟩ c2 => ?_
    obtain ⟨r3, w3⟩ := isL_w c2 b1
    refine (ih .all _ r3 rfl).then_ fun y s3 ⟨d1, d2, d3⟩ => Holds.ret ⟨d1, by omega, word_nodes2 5 (.inl rfl) hn b3.nodes d3.nodes, P1 _ _ _ _ _ ?_, ?_⟩
    ·show W (keyTok kLet :: nameTok n :: zqG mEq :: (inT x ++ keyTok kIn :: inT y)) + 8 ≤ _
     have h2 := b3.w
     have h3 := d3.w
     rw [wk, wn, wm, W_app, wk]; omega
    ·have h2 := b3.n
     have h3 := d3.n
     rw [size2]; omega
   ·obtain ⟨r1, w1⟩ := isL_w c hr
    refine (ih .all _ r1 rfl).key fun x s2 ⟨b1, b2, b3⟩ c2 => ?_
    obtain ⟨r3, w3⟩ := isL_w c2 b1
    refine (ih .all _ r3 rfl).key fun y s3 ⟨d1, d2, d3⟩ c3 => ?_
    obtain ⟨r4, w4⟩ := isL_w c3 d1
    refine (ih .all _ r4 rfl).then_ fun z s4 ⟨f1, f2, f3⟩ => Holds.ret ⟨f1, by omega, if_nodes b3.nodes d3.nodes f3.nodes, P1 _ _ _ _ _ ?_, ?_⟩
    ·show W (keyTok kIf :: (inT x ++ keyTok kThen :: (inT y ++ keyTok kElse :: inT z))) + 8 ≤ _
     have h2 := b3.w
     have h3 := d3.w
     have h4 := f3.w
     rw [wk, W_app, wk, W_app, wk]; omega
    ·have h2 := b3.n
     have h3 := d3.n
     have h4 := f3.n
     rw [size3]; omega
   ·obtain ⟨r1, w1⟩ := isL_w c hr
    refine (ih .all _ r1 rfl).key fun x s2 ⟨b1, b2, b3⟩ c2 => ?_
    obtain ⟨r3, w3⟩ := isL_w c2 b1
    refine (ih .all _ r3 rfl).then_ fun y s3 ⟨d1, d2, d3⟩ => Holds.ret ⟨d1, by omega, plain_nodes2 7 (by simp) b3.nodes d3.nodes, P1 _ _ _ _ _ ?_, ?_⟩
    ·show W (keyTok kWhile :: (inT x ++ keyTok kDo :: inT y)) + 8 ≤ _
     have h2 := b3.w
     have h3 := d3.w
     rw [wk, W_app, wk]; omega
    ·have h2 := b3.n
     have h3 := d3.n
     rw [size2]; omega
   ·obtain ⟨r1, w1⟩ := isL_w c hr
    refine (ih .one _ r1 rfl).then_ fun x s2 ⟨b1, b2, b3⟩ => Holds.ret ⟨b1, by omega, plain_nodes1 8 (.inl rfl) b3.nodes, P1 _ _ _ _ _ ?_, ?_⟩
    ·show W (keyTok kRaise :: inT x) + 8 ≤ _
     have h2 := b3.w
     rw [wk]; omega
    ·have h2 := b3.n
     rw [size1]; omega
   ·obtain ⟨r1, w1⟩ := isL_w c hr
    refine (ih .all _ r1 rfl).key fun x s2 ⟨b1, b2, b3⟩ c2 => ?_
    obtain ⟨r3, w3⟩ := isL_w c2 b1
    refine Holds.name r3 fun n s3 hn r4 w4 => (ih .all _ r4 rfl).then_ fun y s4 ⟨d1, d2, d3⟩ => Holds.ret ⟨d1, by omega, word_nodes2 9 (.inr rfl) hn b3.nodes d3.nodes, P1 _ _ _ _ _ ?_, ?_⟩
    ·show W (keyTok kTry :: (inT x ++ keyTok kWith :: nameTok n :: zqG mArrow :: inT y)) + 8 ≤ _
     have h2 := b3.w
     have h3 := d3.w
     rw [wk, W_app, wk, wn, wm]; omega
    ·have h2 := b3.n
     have h3 := d3.n
     rw [size2]; omega
  | all =>
   obtain rfl : c0 = 0 := hp
   refine (ih .one s hr rfl).then_ fun t s1 ⟨a1, a2, a3⟩ => Holds.ite (fun c => ?_) fun _ => Holds.ret ⟨a1, a2, a3⟩
   obtain ⟨r1, w1⟩ := isL_w c a1
   refine (ih .all _ r1 rfl).then_ fun u s2 ⟨b1, b2, b3⟩ => Holds.ret ⟨b1, by omega, plain_nodes2 13 (by simp) a3.nodes b3.nodes, P1 _ _ _ _ _ ?_, ?_⟩
   ·show W (inT t ++ zqG mSeq :: inT u) + 8 ≤ _
    have h1 := a3.w
    have h2 := b3.w
    rw [W_app, wm]; omega
   ·have h1 := a3.n
    have h2 := b3.n
    rw [size2]; omega
end Go.Proofs.YtchekgnacodolaaGreatDoor.X
end
section
namespace Go.Proofs.YtchekgnacodolaaGreatDoor.X
open Go.RowKit Go.Proofs.YtchekgnacodolaaGreatDoorW.PrintWords
set_option linter.unusedSimpArgs false
set_option linter.unusedVariables false
theorem mx_eq (a b : Int) : mx a b = max a b := by unfold mx; omega
theorem rdTok_at (l : List TokT) (i : Nat) (h : i < l.length) : zqw l (i : Int) = l[i] := by
 unfold zqw; simp [List.getD_eq_getElem?_getD, List.getElem?_eq_getElem h]
theorem rdTm_at (l : List Tm) (i : Nat) (h : i < l.length) : zqA l (i : Int) = l[i] := by
 unfold zqA; simp [List.getD_eq_getElem?_getD, List.getElem?_eq_getElem h]
theorem nested_loop (l : List TokT) (hl : l.length ≤ 1099511627776) (d : Nat) : ∀ (k i : Nat) (n m : Int), i ≤ l.length → l.length - i = d → d < k → -(i : Int) ≤ n → n ≤ i →
  parse_nested.l0 k n m l (l.length : Int) (i : Int) = some ((l.drop i).foldl nestStep (n, m)).2 := by
 induction d with
 | zero =>
  intro k i n m h1 h2 h3 h4 h5
  obtain ⟨k, rfl⟩ : ∃ j, k = j + 1 := ⟨k - 1, by omega⟩
  simp only [parse_nested.l0]
  rw [if_neg (by omega), List.drop_of_length_le (by omega)]; rfl
 | succ d ih =>
  intro k i n m h1 h2 h3 h4 h5
  obtain ⟨k, rfl⟩ : ∃ j, k = j + 1 := ⟨k - 1, by omega⟩
  have hlt : i < l.length := by omega
  simp only [parse_nested.l0]
  rw [if_pos (by omega), if_pos (by omega), if_pos (by omega), rdTok_at l i hlt, List.drop_eq_getElem_cons hlt, List.foldl_cons]
  have e1 : wrap64 ((i : Int) + 1) = ((i + 1 : Nat) : Int) := by rw [wrap_id (by omega) (by omega)]; rfl
  have e2 : wrap64 (n + 1) = n + 1 := wrap_id (by omega) (by omega)
  have e3 : wrap64 (n - 1) = n - 1 := wrap_id (by omega) (by omega)
  rw [e1, e2, e3, mx_eq, mx_eq, mx_eq]
  clear e1 e2 e3
  have ihn := fun (n m : Int) (h : -((i + 1 : Nat) : Int) ≤ n) (h' : n ≤ ((i + 1 : Nat) : Int)) => ih k (i + 1) n m (by omega) (by omega) (by omega) h h'
  generalize l[i] = t
  unfold nestStep
  by_cases h4' : t.f0 = 4
  ·rw [if_pos h4', if_neg (show ¬ (t.f0 ≠ 4) from fun h => h h4')]
   rw [← ByteArray.toList_eq]
   by_cases h40 : t.f1.toList = [40]
   ·rw [if_pos h40]; simp only [if_pos h40]
    exact ihn (n + 1) (max m (n + 1)) (by omega) (by omega)
   ·rw [if_neg h40]; simp only [if_neg h40]
    by_cases h41 : t.f1.toList = [41]
    ·rw [if_pos h41]; simp only [if_pos h41]
     exact ihn (n - 1) (max m (n - 1)) (by omega) (by omega)
    ·rw [if_neg h41]; simp only [if_neg h41]
     exact ihn n (max m n) (by omega) (by omega)
  ·rw [if_neg h4', if_pos h4']
   exact ihn n m (by omega) (by omega)
theorem nested_eq (k : Nat) (l : List TokT) (hl : l.length ≤ 1099511627776) (hk : l.length < k) : parse_nested.f k l = some (nestL l) := by
 unfold parse_nested.f nestL
 have := nested_loop l hl l.length k 0 0 0 (by omega) (by omega) hk (by omega) (by omega)
 simpa using this
theorem size_mem {l : List Tm} {t : Tm} (h : t ∈ l) : sizeT t ≤ sizesT l := by
 induction l with
 | nil => cases h
 | cons x r ih =>
  rw [sizesT]
  rcases List.mem_cons.1 h with rfl | h
  ·omega
  ·have := ih h; omega
theorem sizes_len (l : List Tm) : l.length ≤ sizesT l := by
 induction l with
 | nil => simp
 | cons x r ih => have := size_pos x; rw [sizesT, List.length_cons]; omega
theorem sizes_app (a b : List Tm) : sizesT (a ++ b) = sizesT a + sizesT b := by
 induction a with
 | nil => simp [sizesT]
 | cons x r ih => rw [List.cons_append, sizesT, sizesT, ih]; omega
theorem sizes_drop (l : List Tm) (i : Nat) : sizesT (l.drop i) ≤ sizesT l := by
 have := sizes_app (l.take i) (l.drop i)
 rw [List.take_append_drop] at this; omega
theorem depth_le_size (t : Tm) : depthT t ≤ sizeT t := by
 induction t using Tm.ind with
 | h a b c l ih =>
  rw [depthT, sizeT]
  have : depthsT l ≤ sizesT l := by
   induction l with
   | nil => simp [depthsT, sizesT]
   | cons x r ihr =>
    have h1 := ih x (by simp)
    have h2 := ihr fun t ht => ih t (by simp [ht])
    rw [depthsT, sizesT]; omega
  omega
theorem size_loop (l : List Tm) (hl : sizesT l ≤ 9223372036854775806) (ih : ∀ t ∈ l, ∀ k, 2 * sizeT t ≤ k → term_Size.f k t.f0 t.f1 t.f2 t.f3 = some (sizeT t : Int)) (d : Nat) : ∀ (k i : Nat) (a : Nat), i ≤ l.length → l.length - i = d → 2 * sizesT (l.drop i) + 1 ≤ k → a + sizesT (l.drop i) ≤ 9223372036854775807 →
  term_Size.l0 k (a : Int) l (l.length : Int) (i : Int) = some ((a + sizesT (l.drop i) : Nat) : Int) := by
 have hlen := sizes_len l
 induction d with
 | zero =>
  intro k i a h1 h2 h3 h4
  obtain ⟨k, rfl⟩ : ∃ j, k = j + 1 := ⟨k - 1, by omega⟩
  simp only [term_Size.l0]
  rw [if_neg (by omega), List.drop_of_length_le (by omega)]
  rfl
 | succ d ihd =>
  intro k i a h1 h2 h3 h4
  obtain ⟨k, rfl⟩ : ∃ j, k = j + 1 := ⟨k - 1, by omega⟩
  have hlt : i < l.length := by omega
  have hd := List.drop_eq_getElem_cons hlt
  rw [hd, sizesT] at h3 h4 ⊢
  have hp := size_pos (l[i]'hlt)
  simp only [term_Size.l0]
  rw [if_pos (by omega), if_pos (by omega), if_pos (by omega), rdTm_at l i hlt, ih (l[i]'hlt) (List.getElem_mem hlt) k (by omega)]
  simp only [Option.bind_some]
  have e1 : wrap64 ((i : Int) + 1) = ((i + 1 : Nat) : Int) := by rw [wrap_id (by omega) (by omega)]; rfl
  have e2 : wrap64 ((a : Int) + (sizeT (l[i]'hlt) : Int)) = ((a + sizeT (l[i]'hlt) : Nat) : Int) := by rw [wrap_id (by omega) (by omega)]; rfl
  rw [e1, e2]
  clear e1 e2
  rw [ihd k (i + 1) (a + sizeT (l[i]'hlt)) (by omega) (by omega) (by omega) (by omega), Nat.add_assoc]
theorem size_eq (t : Tm) : sizeT t ≤ 9223372036854775807 → ∀ k, 2 * sizeT t ≤ k → term_Size.f k t.f0 t.f1 t.f2 t.f3 = some (sizeT t : Int) := by
 induction t using Tm.ind with
 | h a b c l ih =>
  intro hs k hk
  rw [sizeT] at hs hk ⊢
  obtain ⟨k, rfl⟩ : ∃ j, k = j + 1 := ⟨k - 1, by omega⟩
  have hloop := size_loop l (by omega) (fun t ht k hk => ih t ht (by have := size_mem ht; omega) k hk) l.length k 0 1 (by omega) (by omega) (by rw [List.drop_zero]; omega) (by rw [List.drop_zero]; omega)
  rw [List.drop_zero] at hloop
  rw [term_Size.f]
  exact hloop
theorem depth_loop (l : List Tm) (hl : sizesT l ≤ 9223372036854775806) (ih : ∀ t ∈ l, ∀ k, 2 * sizeT t ≤ k → term_Depth.f k t.f0 t.f1 t.f2 t.f3 = some (depthT t : Int)) (d : Nat) : ∀ (k i : Nat) (a : Nat), i ≤ l.length → l.length - i = d → 2 * sizesT (l.drop i) + 1 ≤ k → a ≤ 9223372036854775806 →
  term_Depth.l0 k (a : Int) l (l.length : Int) (i : Int) = some ((max a (depthsT (l.drop i)) + 1 : Nat) : Int) := by
 have hlen := sizes_len l
 induction d with
 | zero =>
  intro k i a h1 h2 h3 h4
  obtain ⟨k, rfl⟩ : ∃ j, k = j + 1 := ⟨k - 1, by omega⟩
  simp only [term_Depth.l0]
  rw [if_neg (by omega), List.drop_of_length_le (by omega), wrap_id (by omega) (by omega)]
  simp [depthsT]
 | succ d ihd =>
  intro k i a h1 h2 h3 h4
  obtain ⟨k, rfl⟩ : ∃ j, k = j + 1 := ⟨k - 1, by omega⟩
  have hlt : i < l.length := by omega
  have hd := List.drop_eq_getElem_cons hlt
  have hsd := sizes_drop l i
  rw [hd] at hsd ⊢
  rw [hd] at h3
  rw [sizesT] at h3 hsd
  rw [depthsT]
  have hp := size_pos (l[i]'hlt)
  have hds := depth_le_size (l[i]'hlt)
  simp only [term_Depth.l0]
  rw [if_pos (by omega), if_pos (by omega), if_pos (by omega), rdTm_at l i hlt, ih (l[i]'hlt) (List.getElem_mem hlt) k (by omega)]
  simp only [Option.bind_some]
  have e1 : wrap64 ((i : Int) + 1) = ((i + 1 : Nat) : Int) := by rw [wrap_id (by omega) (by omega)]; rfl
  have e2 : mx (a : Int) (depthT (l[i]'hlt) : Int) = ((max a (depthT (l[i]'hlt)) : Nat) : Int) := by rw [mx_eq]; omega
  rw [e1, e2]
  clear e1 e2
  rw [ihd k (i + 1) _ (by omega) (by omega) (by omega) (by omega), Nat.max_assoc]
theorem depth_eq (t : Tm) : sizeT t ≤ 9223372036854775807 → ∀ k, 2 * sizeT t ≤ k → term_Depth.f k t.f0 t.f1 t.f2 t.f3 = some (depthT t : Int) := by
 induction t using Tm.ind with
 | h a b c l ih =>
  intro hs k hk
  rw [sizeT] at hs hk
  rw [depthT]
  obtain ⟨k, rfl⟩ : ∃ j, k = j + 1 := ⟨k - 1, by omega⟩
  have hloop := depth_loop l (by omega) (fun t ht k hk => ih t ht (by have := size_mem ht; omega) k hk) l.length k 0 0 (by omega) (by omega) (by rw [List.drop_zero]; omega) (by omega)
  rw [List.drop_zero, Nat.zero_max] at hloop
  rw [term_Depth.f]
  exact hloop
theorem isKey_size {d : ByteArray} (h : isKey d = true) : d.size ≤ 16 := by
 have h1 := (isKey_iff d).1 h
 have : keyWords.all (fun m => decide (m.size ≤ 16)) = true := by decide +kernel
 simpa using List.all_eq_true.1 this _ h1
theorem right_size {t : TokT} (h : rightT t = true) : t.f1.size ≤ 16 := by
 have hc : t.f0 = 1 ∨ t.f0 = 3 ∨ t.f0 = 2 ∨ t.f0 = 4 := by
  unfold rightT at h
  by_cases h1 : t.f0 = 1 ∨ t.f0 = 3
  ·rcases h1 with h1 | h1
   ·exact .inl h1
   ·exact .inr (.inl h1)
  ·rw [if_neg h1] at h
   by_cases h2 : t.f0 = 2
   ·exact .inr (.inr (.inl h2))
   ·rw [if_neg h2] at h
    by_cases h4 : t.f0 = 4
    ·exact .inr (.inr (.inr h4))
    ·rw [if_neg h4] at h; cases h
 rcases hc with h1 | h1 | h1 | h1
 ·have hw := (name_right h h1).1
  unfold wordB at hw
  rw [Bool.and_eq_true] at hw
  have hn := hw.1
  rw [size_len]
  cases hd : t.f1.data.toList with
  | nil => simp
  | cons b r => rw [hd] at hn; simp only [nameL, Bool.and_eq_true, decide_eq_true_eq] at hn; exact hn.2
 ·unfold rightT at h
  rw [if_pos (Or.inr h1)] at h
  simp only [Bool.and_eq_true, beq_iff_eq] at h
  unfold wordTok at h
  rw [B_of] at h
  by_cases hk : isKey t.f1 = true
  ·exact isKey_size hk
  ·rw [if_neg hk] at h
   have := h.1.2
   rw [h1] at this
   simp only at this
   omega
 ·obtain ⟨h0, h2, he⟩ := num_right2 h h1
  rw [he]
  have : (numTok t.f2).f1.size = (itoaF t.f2).length := zqM _
  rw [this, itoaF_dec h0 h2, dec_F _ (by omega)]
  exact Nat.le_trans (decF_len _ _) (by decide)
 ·unfold rightT at h
  rw [if_neg (by omega), if_neg (by omega), if_pos h1] at h
  simp only [Bool.and_eq_true, beq_iff_eq] at h
  have hm := (markL_mem h.1).1
  have : (markWords.map (·.data.toList)).all (fun m => decide (m.length ≤ 16)) = true := by decide +kernel
  have := List.all_eq_true.1 this _ hm
  rw [size_len]
  simpa using this
theorem W_right {l : List TokT} (h : l.all rightT = true) : W l ≤ 17 * l.length := by
 induction l with
 | nil => simp [W]
 | cons x r ih =>
  rw [List.all_cons, Bool.and_eq_true] at h
  have := right_size h.1
  have := ih h.2
  rw [W, List.length_cons]; omega
theorem parse_size {l s : List TokT} {t : Tm} (hr : l.all rightT = true) (hp : parseL l = some (t, s)) : sizeT t ≤ 17 * l.length := by
 obtain ⟨_, _, hg⟩ := run_good _ .all l 0 hr rfl t s ((parseL_run l).trans (by rw [hp]))
 have := hg.n
 have := W_right hr
 omega
end Go.Proofs.YtchekgnacodolaaGreatDoor.X
end
section
namespace Go.Proofs.YtchekgnacodolaaGreatDoor.X
open Go.RowKit Go.Proofs.YtchekgnacodolaaGreatDoorW.PrintWords
set_option linter.unusedSimpArgs false
set_option linter.unusedVariables false
theorem rdOf_get (l : List ByteArray) (i : Nat) (h : i < l.length) : rdOf ByteArray.empty l (i : Int) = l[i] := by
 unfold rdOf; simp [List.getD_eq_getElem?_getD, List.getElem?_eq_getElem h]
theorem has_loop (l : List ByteArray) (s : ByteArray) (hl : l.length ≤ 1000) (d : Nat) : ∀ (k i : Nat), i ≤ l.length → l.length - i = d → d < k →
  chancelref02_Has.l0 k l s (i : Int) = some ((l.drop i).any fun x => x.data.toList == s.data.toList) := by
 induction d with
 | zero =>
  intro k i h1 h2 h3
  obtain ⟨k, rfl⟩ : ∃ m, k = m + 1 := ⟨k - 1, by omega⟩
  obtain rfl : i = l.length := by omega
  simp only [chancelref02_Has.l0]
  rw [if_neg (by omega), List.drop_length]; rfl
 | succ d ih =>
  intro k i h1 h2 h3
  obtain ⟨k, rfl⟩ : ∃ m, k = m + 1 := ⟨k - 1, by omega⟩
  have hlt : i < l.length := by omega
  have hgo := ih k (i + 1) (by omega) (by omega) (by omega)
  simp only [chancelref02_Has.l0]
  rw [if_pos (by omega), if_pos (by omega), rdOf_get l i hlt, wrap_id (by omega) (by omega), List.drop_eq_getElem_cons hlt, List.any_cons, ByteArray.toList_eq, ByteArray.toList_eq]
  by_cases h : l[i].data.toList = s.data.toList
  ·rw [if_pos h, h]; simp
  ·rw [if_neg h]
   have : (l[i].data.toList == s.data.toList) = false := by simpa using h
   rw [this]; exact hgo
theorem has_eq (l : List ByteArray) (s : ByteArray) (hl : l.length ≤ 1000) (k : Nat) (hk : l.length < k) : chancelref02_Has.f k l s = some (l.any fun x => x.data.toList == s.data.toList) :=
 has_loop l s hl l.length k 0 (by omega) (by omega) hk
theorem refKey_eq (s : ByteArray) (k : Nat) (hk : 20 < k) : chancelref02_Keyword.f k s = some (isKey s) := by
 have := has_eq keyWords s (by decide) k (Nat.lt_trans (by decide) hk)
 unfold chancelref02_Keyword.f
 show (chancelref02_Has.f k keyWords s).bind _ = _
 rw [this]; rfl
theorem refName_loop (l : List UInt8) (hl : l.length ≤ 16) (d : Nat) : ∀ (k i : Nat), i ≤ l.length → l.length - i = d → d < k →
  chancelref01_Name.l0 k (B l) (i : Int) = some (nameFrom i (l.drop i)) := by
 induction d with
 | zero =>
  intro k i h1 h2 h3
  obtain ⟨k, rfl⟩ : ∃ m, k = m + 1 := ⟨k - 1, by omega⟩
  obtain rfl : i = l.length := by omega
  simp only [chancelref01_Name.l0]
  rw [if_neg (by rw [zqM]; omega), List.drop_length]
  cases h : l.length <;> rfl
 | succ d ih =>
  intro k i h1 h2 h3
  obtain ⟨k, rfl⟩ : ∃ m, k = m + 1 := ⟨k - 1, by omega⟩
  have hlt : i < l.length := by omega
  have hgo := ih k (i + 1) (by omega) (by omega) (by omega)
  simp only [chancelref01_Name.l0]
  rw [if_pos (by rw [zqM]; omega), if_pos (by omega), bt_B l i hlt, wrap_id (by omega) (by omega)]
  have hd : l.drop i = l[i] :: l.drop (i + 1) := List.drop_eq_getElem_cons hlt
  rw [hd]
  have hnf : nameFrom (i + 1) (l.drop (i + 1)) = (l.drop (i + 1)).all zqH := by
   cases h : l.drop (i + 1) <;> simp [nameFrom]
  rw [hnf] at hgo
  rw [show ((i : Int) + 1) = ((i + 1 : Nat) : Int) from rfl, hgo]
  generalize hb : l[i] = b
  have key : nameFrom i (b :: l.drop (i + 1)) = ((if i = 0 then isLet b else zqH b) && (l.drop (i + 1)).all zqH) := by
   cases i with
   | zero => simp [nameFrom]
   | succ i => simp [nameFrom]
  rw [key]
  generalize (l.drop (i + 1)).all zqH = q
  by_cases hL : isLet b = true
  ·have hW : zqH b = true := by simp [zqH, hL]
   rw [hL, hW]
   have hr : (if i = 0 then true else true) = true := by split <;> rfl
   rw [hr, Bool.true_and]
   have hc : (97 ≤ b.toNat ∧ b.toNat ≤ 122) ∨ (65 ≤ b.toNat ∧ b.toNat ≤ 90) := by simpa [isLet] using hL
   rcases hc with ⟨h1, h2⟩ | ⟨h1, h2⟩
   ·rw [if_pos (by omega), if_pos (by omega), if_pos (by omega)]
   ·rw [if_neg (by omega), if_pos (by omega), if_pos (by omega), if_pos (by omega)]
  ·have hL' : isLet b = false := by simpa using hL
   have hc : ¬ ((97 ≤ b.toNat ∧ b.toNat ≤ 122) ∨ (65 ≤ b.toNat ∧ b.toNat ≤ 90)) := by simpa [isLet] using hL
   by_cases hD : isDig b = true
   ·have hW : zqH b = true := by simp [zqH, hD]
    have hc2 : 48 ≤ b.toNat ∧ b.toNat ≤ 57 := by simpa [isDig] using hD
    rw [hL', hW, if_neg (by omega), if_neg (by omega), if_pos (by omega)]
    by_cases h0 : i = 0
    ·subst h0; simp
    ·rw [if_neg (by omega), if_pos (by omega), if_neg h0]; simp
   ·have hW : zqH b = false := by simp [zqH, hL', hD]
    have hc2 : ¬ (48 ≤ b.toNat ∧ b.toNat ≤ 57) := by simpa [isDig] using hD
    rw [hL', hW]
    have hr : (if i = 0 then false else false) = false := by split <;> rfl
    rw [hr, Bool.false_and]
    (repeat' split) <;> first | rfl | omega
theorem refName_eq (l : List UInt8) (k : Nat) (hk : 30 < k) : chancelref01_Name.f k (B l) = some (nameL l) := by
 obtain ⟨k, rfl⟩ : ∃ m, k = m + 1 := ⟨k - 1, by omega⟩
 unfold chancelref01_Name.f
 rw [zqM]
 cases l with
 | nil => rfl
 | cons b r =>
  rw [if_neg (by simp; omega)]
  simp only [chancelref01_Name.j0]
  by_cases h : (b :: r).length ≤ 16
  ·rw [if_neg (by simp at h ⊢; omega)]
   have := refName_loop (b :: r) h (b :: r).length k 0 (by omega) (by omega) (by omega)
   rw [show ((0 : Nat) : Int) = 0 from rfl] at this
   rw [this, List.drop_zero]
   have h' : decide ((b :: r).length ≤ 16) = true := by simpa using h
   show some (isLet b && r.all zqH) = some (isLet b && r.all zqH && decide ((b :: r).length ≤ 16))
   rw [h', Bool.and_true]
  ·rw [if_pos (by simp at h ⊢; omega)]
   have h' : decide ((b :: r).length ≤ 16) = false := by simpa using h
   show _ = some (isLet b && r.all zqH && decide ((b :: r).length ≤ 16))
   rw [h', Bool.and_false]
theorem digits_loop : ∀ (j k n : Nat) (acc : List UInt8), n < 9223372036854775808 → n < 10 ^ j → 0 < j → j ≤ k → j + acc.length ≤ 1000 →
  chancelref02_Digits.l0 k (n : Int) (B acc) = some (B (Lib.decDigits n ++ acc)) := by
 intro j
 induction j with
 | zero => intro k n acc h0 h1 h2; omega
 | succ j ih =>
  intro k n acc hn hj h0 hk ha
  obtain ⟨k, rfl⟩ : ∃ m, k = m + 1 := ⟨k - 1, by omega⟩
  have one : ∀ m : Nat, m < 10 → strOfNums [(wrap64 (48 + (m : Int))) % 256] = B [UInt8.ofNat (48 + m)] := by
   intro m hm
   rw [wrap_id (by omega) (by omega)]
   unfold strOfNums B
   congr 1
   simp only [List.map_cons, List.map_nil]
   congr 2
   rw [show ((48 + (m : Int)) % 256).toNat = 48 + m by omega]
  simp only [chancelref02_Digits.l0]
  rw [Lib.decDigits]
  by_cases h : n < 10
  ·rw [dif_pos h, if_neg (by omega), Option.bind_some, one n h, if_pos (by rw [zqM, zqM, List.length_singleton]; omega), B_append]
  ·rw [dif_neg h, if_pos (by omega), Option.bind_some]
   have h1 : Int.tmod (n : Int) 10 = ((n % 10 : Nat) : Int) := by rw [Int.tmod_eq_emod_of_nonneg (by omega)]; omega
   have h2 : Int.tdiv (n : Int) 10 = ((n / 10 : Nat) : Int) := by rw [Int.tdiv_eq_ediv_of_nonneg (by omega)]; omega
   rw [h1, h2, one (n % 10) (by omega), if_pos (by rw [zqM, zqM]; simp; omega), B_append, wrap_id (by omega) (by omega)]
   have hj0 : 0 < j := by
    rcases Nat.eq_zero_or_pos j with h0 | h0
    ·subst h0; simp at hj; omega
    ·exact h0
   rw [ih k (n / 10) _ (by omega) (by rw [Nat.pow_succ] at hj; omega) hj0 (by omega) (by simp; omega)]
   simp
theorem refNum_loop (l : List UInt8) (hl : l.length ≤ 10) (d : Nat) : ∀ (k i : Nat), i ≤ l.length → l.length - i = d → (l.take i).all isDig = true → valD 0 (l.take i) < 10 ^ i → 30 + d < k →
  chancelref02_Number.l0 k (B l) (valD 0 (l.take i) : Int) (i : Int) = some (if (l.all isDig && decide (valD 0 l < 2147483648) && (Lib.decDigits (valD 0 l) == l)) = true then ((valD 0 l : Int), true) else (0, false)) := by
 have hpow : ∀ j, j ≤ 10 → (10 : Nat) ^ j ≤ 10000000000 := fun j hj => Nat.le_trans (Nat.pow_le_pow_right (by omega) hj) (by decide)
 induction d with
 | zero =>
  intro k i h1 h2 ha hv h3
  obtain ⟨k, rfl⟩ : ∃ m, k = m + 1 := ⟨k - 1, by omega⟩
  obtain rfl : i = l.length := by omega
  rw [List.take_length] at ha hv ⊢
  have := hpow _ hl
  simp only [chancelref02_Number.l0]
  rw [if_neg (by rw [zqM]; omega), ha, Bool.true_and]
  by_cases h31 : valD 0 l < 2147483648
  ·rw [if_neg (by omega)]
   unfold chancelref02_Digits.f
   rw [show (⟨#[]⟩ : ByteArray) = B [] from rfl, digits_loop 10 k _ [] (by omega) (by omega) (by omega) (by omega) (by simp), Option.bind_some, B_toList, B_toList, List.append_nil]
   have e1 : decide (valD 0 l < 2147483648) = true := by simpa using h31
   rw [e1, Bool.true_and]
   by_cases hs : Lib.decDigits (valD 0 l) = l
   ·rw [if_pos hs, if_pos (by simpa using hs)]
   ·rw [if_neg hs, if_neg (by simpa using hs)]
  ·rw [if_pos (by omega)]
   have e1 : decide (valD 0 l < 2147483648) = false := by simpa using h31
   rw [e1, Bool.false_and, if_neg (by simp)]
 | succ d ih =>
  intro k i h1 h2 ha hv h3
  obtain ⟨k, rfl⟩ : ∃ m, k = m + 1 := ⟨k - 1, by omega⟩
  have hlt : i < l.length := by omega
  have := hpow i (by omega)
  simp only [chancelref02_Number.l0]
  rw [if_pos (by rw [zqM]; omega), if_pos (by omega), bt_B l i hlt]
  have hn : ∀ b : UInt8, b ∈ l → isDig b = false → l.all isDig = false := by
   intro b hb hd
   rw [Bool.eq_false_iff]
   intro h
   rw [List.all_eq_true.1 h b hb] at hd; cases hd
  by_cases h48 : (l[i].toNat : Int) < 48
  ·rw [if_pos h48, hn _ (List.getElem_mem hlt) (by simp [isDig]; omega)]; rfl
  ·rw [if_neg h48]
   by_cases h57 : (l[i].toNat : Int) > 57
   ·rw [if_pos h57, hn _ (List.getElem_mem hlt) (by simp [isDig]; omega)]; rfl
   ·rw [if_neg h57]
    have hd : isDig l[i] = true := by simp [isDig]; omega
    have ht : l.take (i + 1) = l.take i ++ [l[i]] := List.take_succ_eq_append_getElem hlt
    have hval : valD 0 (l.take (i + 1)) = valD 0 (l.take i) * 10 + (l[i].toNat - 48) := by rw [ht, valD_snoc]
    have hlt2 : valD 0 (l.take (i + 1)) < 10 ^ (i + 1) := by rw [hval, Nat.pow_succ]; omega
    have hgo := ih k (i + 1) (by omega) (by omega) (by rw [ht, List.all_append, ha]; simp [hd]) hlt2 (by omega)
    rw [wrap_id (x := (valD 0 (l.take i) : Int) * 10) (by omega) (by omega), wrap_id (by omega) (by omega), wrap_id (x := (i : Int) + 1) (by omega) (by omega)]
    rw [show ((valD 0 (l.take i) : Int) * 10 + ((l[i].toNat : Int) - 48) % 256) = ((valD 0 (l.take (i + 1)) : Nat) : Int) by rw [hval]; omega]
    exact hgo
theorem refNum_eq (l : List UInt8) (k : Nat) (hk : 100 < k) : chancelref02_Number.f k (B l) = some (if goodNum l = true then ((valD 0 l : Int), true) else (0, false)) := by
 obtain ⟨k, rfl⟩ : ∃ m, k = m + 1 := ⟨k - 1, by omega⟩
 unfold chancelref02_Number.f
 rw [zqM]
 by_cases h1 : 1 ≤ l.length
 ·rw [if_neg (by omega)]
  simp only [chancelref02_Number.j0]
  by_cases h2 : l.length ≤ 10
  ·rw [if_neg (by simp; omega)]
   have := refNum_loop l h2 l.length k 0 (by omega) (by omega) (by rw [List.take_zero]; rfl) (by rw [List.take_zero, Nat.pow_zero]; exact Nat.one_pos) (by omega)
   have z0 : ((valD 0 (l.take 0) : Nat) : Int) = 0 := by rw [List.take_zero]; rfl
   have z1 : ((0 : Nat) : Int) = 0 := rfl
   rw [z0, z1] at this
   rw [this]
   unfold goodNum
   have e1 : decide (1 ≤ l.length) = true := by simpa using h1
   have e2 : decide (l.length ≤ 10) = true := by simpa using h2
   rw [e1, e2]; simp
  ·rw [if_pos (by simp; omega), if_neg]
   unfold goodNum
   have e2 : decide (l.length ≤ 10) = false := by simpa using h2
   rw [e2]; simp
 ·rw [if_pos (by omega)]
  simp only [chancelref02_Number.j0]
  rw [if_pos trivial, if_neg]
  unfold goodNum
  have e1 : decide (1 ≤ l.length) = false := by simpa using h1
  rw [e1]; simp
end Go.Proofs.YtchekgnacodolaaGreatDoor.X
end
section
namespace Go.Proofs.YtchekgnacodolaaGreatDoor.X
open Go.RowKit Go.Proofs.YtchekgnacodolaaGreatDoorW.PrintWords
set_option linter.unusedSimpArgs false
set_option linter.unusedVariables false
abbrev RTok := S107
def rT (t : TokT) : RTok := ⟨t.f0, t.f1, t.f2⟩
theorem find_idx {α : Type} (p : α → Bool) : ∀ l : List α, l[l.findIdx p]? = l.find? p
 | [] => rfl
 | x :: l => by
  rw [List.findIdx_cons, List.find?_cons]
  cases h : p x with
  | true => rfl
  | false => simp [find_idx p l]
theorem pre_take (l m : List UInt8) : m.isPrefixOf l = true ↔ m.length ≤ l.length ∧ l.take m.length = m := by
 rw [List.isPrefixOf_iff_prefix, List.prefix_iff_eq_take]
 constructor
 ·intro h
  refine ⟨?_, h.symm⟩
  have := congrArg List.length h
  rw [List.length_take] at this
  omega
 ·rintro ⟨_, h⟩; exact h.symm
theorem refMark_loop (l : List UInt8) (hl : l.length ≤ 65536) (d : Nat) : ∀ (k i : Nat), i ≤ 13 → 13 - i = d → d < k →
  chancelref02_mark.l0 k (B l) markWords (i : Int) = some (((markWords.drop i).find? (preOf (B l))).getD ⟨#[]⟩) := by
 have hlen : markWords.length = 13 := rfl
 induction d with
 | zero =>
  intro k i h1 h2 h3
  obtain ⟨k, rfl⟩ : ∃ m, k = m + 1 := ⟨k - 1, by omega⟩
  obtain rfl : i = 13 := by omega
  simp only [chancelref02_mark.l0]
  rw [if_neg (by omega)]; rfl
 | succ d ih =>
  intro k i h1 h2 h3
  obtain ⟨k, rfl⟩ : ∃ m, k = m + 1 := ⟨k - 1, by omega⟩
  have hlt : i < markWords.length := by omega
  have hgo := ih k (i + 1) (by omega) (by omega) (by omega)
  simp only [chancelref02_mark.l0]
  rw [if_pos (by omega), if_pos (by omega), rdOf_get markWords i hlt, wrap_id (by omega) (by omega), List.drop_eq_getElem_cons hlt, List.find?_cons]
  generalize markWords[i] = m
  have hm : preOf (B l) m = true ↔ m.size ≤ l.length ∧ (B l).extract 0 m.size = m := by
   unfold preOf Lib.hasPrefix
   rw [B_list, pre_take, size_len, B_extract]
   constructor
   ·rintro ⟨h1, h2⟩
    refine ⟨h1, ?_⟩
    rw [List.drop_zero, Nat.sub_zero, h2, B_of]
   ·rintro ⟨h1, h2⟩
    refine ⟨h1, ?_⟩
    have := congrArg (·.data.toList) h2
    simpa [B_list] using this
  rw [zqM, Int.toNat_natCast]
  by_cases h : m.size ≤ l.length
  ·rw [if_pos (by omega), if_pos (by omega), if_pos (by omega)]
   by_cases h2 : (B l).extract 0 m.size = m
   ·rw [hm.2 ⟨h, h2⟩, h2, if_pos rfl]; rfl
   ·have : preOf (B l) m = false := by
     rw [Bool.eq_false_iff]; exact fun e => h2 (hm.1 e).2
    rw [this, if_neg (fun e => h2 (by rw [ByteArray.toList_eq, ByteArray.toList_eq] at e; have e2 := congrArg B e; rwa [B_of, B_of] at e2))]
    exact hgo
  ·have : preOf (B l) m = false := by
    rw [Bool.eq_false_iff]; exact fun e => h (hm.1 e).1
   rw [this, if_neg (by omega)]
   exact hgo
theorem refMark_eq (l : List UInt8) (hl : l.length ≤ 65536) (k : Nat) (hk : 20 < k) : chancelref02_mark.f k (B l) = some (B ((markL l).getD [])) := by
 have h := refMark_loop l hl 13 k 0 (by omega) rfl (by omega)
 show chancelref02_mark.l0 k (B l) markWords 0 = _
 rw [show ((0 : Nat) : Int) = 0 from rfl] at h
 rw [h, List.drop_zero]
 unfold markL markIdx
 rw [find_idx]
 cases (markWords.find? (preOf (B l))) with
 | none => rfl
 | some m => simp [B_of]
def wordR (d : List UInt8) : Int × ByteArray × Int × Bool :=
 if isKey (B d) = true then (3, B d, 0, true) else if nameL d = true then (1, B d, 0, true) else if goodNum d = true then (2, B d, (valD 0 d : Int), true) else (2, B d, 0, false)
theorem word_eq (d : List UInt8) (k : Nat) (hk : 100 < k) : chancelref02_word.f k (B d) = some (wordR d) := by
 unfold chancelref02_word.f wordR
 rw [refKey_eq _ k (by omega), Option.bind_some]
 by_cases h : isKey (B d) = true
 ·rw [if_pos h, if_pos h]
 ·rw [if_neg h, if_neg h, refName_eq _ k (by omega), Option.bind_some]
  by_cases h2 : nameL d = true
  ·rw [if_pos h2, if_pos h2]
  ·rw [if_neg h2, if_neg h2, refNum_eq d k hk, Option.bind_some]
   by_cases h3 : goodNum d = true
   ·rw [if_pos h3, if_pos h3]
   ·rw [if_neg h3, if_neg h3]
theorem letter_ref (b : UInt8) : chancelref02_letter.f (b.toNat : Int) = some (isLet b) := by
 have := all_bytes (p := fun b => chancelref02_letter.f (b.toNat : Int) == some (isLet b)) (by decide +kernel) b
 simpa using this
theorem digit_ref (b : UInt8) : chancelref02_digit.f (b.toNat : Int) = some (isDig b) := by
 have := all_bytes (p := fun b => chancelref02_digit.f (b.toNat : Int) == some (isDig b)) (by decide +kernel) b
 simpa using this
def runP (f : UInt8) (c : UInt8) : Bool := isDig c || (isLet c && isLet f)
theorem run_ref (l : List UInt8) (hl : l.length ≤ 65536) (from_ : Nat) (hf : from_ < l.length) (acc : List RTok) (K n : Nat) : ∀ at_ : Nat, from_ ≤ at_ → at_ ≤ l.length → ((l.drop at_).takeWhile (runP l[from_])).length = n →
  chancelref02_Lex.l2 (K + n + 1) (B l) acc (at_ : Int) (from_ : Int) = (chancelref02_word.f K (B ((l.drop from_).take (at_ + n - from_)))).bind fun bt =>
   if bt.2.2.2 = true then (if acc.length < 4398046511104 then chancelref02_Lex.l0 K (B l) (acc ++ [(⟨bt.1, bt.2.1, bt.2.2.1⟩ : RTok)]) ((at_ + n : Nat) : Int) else none) else some ([], 2) := by
 have hex : ∀ a : Nat, a ≤ l.length → (B l).extract ((from_ : Int)).toNat ((a : Int)).toNat = B ((l.drop from_).take (a - from_)) := by
  intro a ha
  rw [Int.toNat_natCast, Int.toNat_natCast, B_extract]
 induction n with
 | zero =>
  intro a h0 h1 h2
  simp only [chancelref02_Lex.l2]
  by_cases hlt : a < l.length
  ·have hc : runP l[from_] l[a] = false := by
    rw [List.drop_eq_getElem_cons hlt, List.takeWhile_cons] at h2
    cases hr : runP l[from_] l[a] with
    | false => rfl
    | true => rw [hr] at h2; simp at h2
   have hd : isDig l[a] = false := by
    cases h : isDig l[a] with
    | false => rfl
    | true => simp [runP, h] at hc
   rw [if_pos (by rw [zqM]; omega), if_pos (by omega), bt_B l a hlt, digit_ref, Option.bind_some, hd, if_neg (by simp), letter_ref, Option.bind_some]
   cases hL : isLet l[a] with
   | false =>
    rw [if_neg (by simp), if_pos (by omega), if_pos (by omega), if_pos (by rw [zqM]; omega), hex a h1]; rfl
   | true =>
    have hLf : isLet l[from_] = false := by
     cases h : isLet l[from_] with
     | false => rfl
     | true => simp [runP, hL, h] at hc
    rw [if_pos rfl, if_pos (by omega), if_pos (by rw [zqM]; omega), bt_B l from_ hf, letter_ref, Option.bind_some, hLf, if_neg (by simp), if_pos (by omega), if_pos (by rw [zqM]; omega), hex a h1]; rfl
  ·rw [if_neg (by rw [zqM]; omega), if_pos (by omega), if_pos (by omega), if_pos (by rw [zqM]; omega), hex a h1]; rfl
 | succ n ih =>
  intro a h0 h1 h2
  have hlt : a < l.length := by
   rcases Nat.lt_or_ge a l.length with h | h
   ·exact h
   ·rw [List.drop_eq_nil_of_le h] at h2; simp at h2
  rw [List.drop_eq_getElem_cons hlt, List.takeWhile_cons] at h2
  cases hr : runP l[from_] l[a] with
  | false => rw [hr] at h2; simp at h2
  | true =>
   rw [hr] at h2
   simp only [if_true, List.length_cons] at h2
   have hgo := ih (a + 1) (by omega) (by omega) (by omega)
   rw [show a + 1 + n = a + (n + 1) by omega] at hgo
   rw [show K + (n + 1) + 1 = (K + n + 1) + 1 by omega]
   generalize K + n + 1 = K' at hgo ⊢
   simp only [chancelref02_Lex.l2]
   rw [if_pos (by rw [zqM]; omega), if_pos (by omega), bt_B l a hlt, digit_ref, Option.bind_some, wrap_id (by omega) (by omega)]
   cases hd : isDig l[a] with
   | true => rw [if_pos rfl]; exact hgo
   | false =>
    have hb : isLet l[a] = true ∧ isLet l[from_] = true := by simpa [runP, hd] using hr
    rw [if_neg (by simp), letter_ref, Option.bind_some, hb.1, if_pos rfl, if_pos (by omega), if_pos (by rw [zqM]; omega), bt_B l from_ hf, letter_ref, Option.bind_some, hb.2, if_pos rfl]
    exact hgo
theorem note_ref (l : List UInt8) (hl : l.length ≤ 65536) (acc : List RTok) (K n : Nat) : ∀ at_ : Nat, at_ ≤ l.length → ((l.drop at_).takeWhile (· != 10)).length = n →
  chancelref02_Lex.l1 (K + n + 1) (B l) acc (at_ : Int) = chancelref02_Lex.l0 K (B l) acc ((at_ + n : Nat) : Int) := by
 induction n with
 | zero =>
  intro a h1 h2
  simp only [chancelref02_Lex.l1]
  by_cases hlt : a < l.length
  ·have hc : l[a] = 10 := by
    rw [List.drop_eq_getElem_cons hlt, List.takeWhile_cons] at h2
    by_cases h : l[a] = 10
    ·exact h
    ·rw [if_pos (by simpa using h)] at h2; simp at h2
   rw [if_pos (by rw [zqM]; omega), if_pos (by omega), bt_B l a hlt, hc, if_pos (by rfl)]; rfl
  ·rw [if_neg (by rw [zqM]; omega)]; rfl
 | succ n ih =>
  intro a h1 h2
  have hlt : a < l.length := by
   rcases Nat.lt_or_ge a l.length with h | h
   ·exact h
   ·rw [List.drop_eq_nil_of_le h] at h2; simp at h2
  rw [List.drop_eq_getElem_cons hlt, List.takeWhile_cons] at h2
  by_cases hc : l[a] = 10
  ·rw [if_neg (by simp [hc])] at h2; simp at h2
  ·rw [if_pos (by simpa using hc)] at h2
   simp only [List.length_cons] at h2
   have hgo := ih (a + 1) (by omega) (by omega)
   rw [show a + 1 + n = a + (n + 1) by omega] at hgo
   rw [show K + (n + 1) + 1 = (K + n + 1) + 1 by omega]
   generalize K + n + 1 = K' at hgo ⊢
   simp only [chancelref02_Lex.l1]
   have hb : ¬ ((l[a].toNat : Int) = 10) := fun e => hc (by apply UInt8.toNat_inj.1; have : (10 : UInt8).toNat = 10 := rfl; omega)
   rw [if_pos (by rw [zqM]; omega), if_pos (by omega), bt_B l a hlt, if_neg hb, wrap_id (by omega) (by omega)]
   exact hgo
def resR (acc : List RTok) : Option (List TokT) → List RTok × Int
 | some ts => (acc ++ ts.map rT, 0)
 | none => ([], 2)
end Go.Proofs.YtchekgnacodolaaGreatDoor.X
end
section
namespace Go.Proofs.YtchekgnacodolaaGreatDoor.X
open Go.RowKit Go.Proofs.YtchekgnacodolaaGreatDoorW.PrintWords
set_option linter.unusedSimpArgs false
set_option linter.unusedVariables false
theorem num_dig (d : List UInt8) (h : d.all isDig = true) : (numOf (B d)).2 = goodNum d := by
 rw [← num_good]
 cases h2 : (numOf (B d)).2 with
 | false => rfl
 | true =>
  have h0 : 0 ≤ (numOf (B d)).1 := by
   unfold numOf at h2 ⊢
   cases hp : Lib.parseIntB 32 (B d).data.toList with
   | ok v =>
    rw [hp] at h2
    simp only at h2 ⊢
    have e : itoaF v = d := by simpa [B_list] using h2
    by_cases hv : v < 0
    ·unfold itoaF at e
     rw [if_pos hv] at e
     rw [← e] at h
     simp [isDig] at h
    ·exact Int.not_lt.1 hv
   | _ => rw [hp] at h2; cases h2
  simp [h0]
theorem good_dig {d : List UInt8} (h : goodNum d = true) : d.all isDig = true := by
 simp only [goodNum, Bool.and_eq_true] at h
 exact h.1.1.2
theorem let_dig (b : UInt8) (h : isLet b = true) : isDig b = false := by
 have h1 : (97 ≤ b.toNat ∧ b.toNat ≤ 122) ∨ (65 ≤ b.toNat ∧ b.toNat ≤ 90) := by simpa [isLet] using h
 simp [isDig]; omega
theorem key_let {b : UInt8} {d : List UInt8} (h : isKey (B (b :: d)) = true) : isLet b = true := by
 have := (isKey_plain h).2
 simp only [List.all_cons, Bool.and_eq_true] at this
 exact this.1
theorem name_let {b : UInt8} {d : List UInt8} (h : nameL (b :: d) = true) : isLet b = true := by
 simp only [nameL, Bool.and_eq_true] at h
 exact h.1.1
theorem mark_ne {l m : List UInt8} (h : markL l = some m) : m ≠ [] := by
 have hm := (markL_mem h).1
 have : (markWords.map (·.data.toList)).all (fun m => !m.isEmpty) = true := by decide +kernel
 have h2 := List.all_eq_true.1 this m hm
 intro e; rw [e] at h2; cases h2
theorem tw_take (p : UInt8 → Bool) : ∀ l : List UInt8, l.take (l.takeWhile p).length = l.takeWhile p
 | [] => rfl
 | c :: l => by
  rw [List.takeWhile_cons]
  cases h : p c with
  | true => simp [tw_take p l]
  | false => simp
theorem tw_sat (p : UInt8 → Bool) : ∀ l : List UInt8, (l.takeWhile p).all p = true
 | [] => rfl
 | c :: l => by
  rw [List.takeWhile_cons]
  cases h : p c with
  | true => simp [h, tw_sat p l]
  | false => simp
theorem refLex_loop (l : List UInt8) (hl : l.length ≤ 65536) (d : Nat) : ∀ (k a : Nat) (acc : List RTok), a ≤ l.length → l.length - a ≤ d → acc.length + (l.length - a) ≤ 65536 → 200 + 5 * d < k →
  chancelref02_Lex.l0 k (B l) acc (a : Int) = some (resR acc (tokL (l.drop a))) := by
 induction d using Nat.strongRecOn with
 | ind d ih =>
  intro k a acc h1 h2 h3 h4
  obtain ⟨k, rfl⟩ : ∃ m, k = m + 1 := ⟨k - 1, by omega⟩
  simp only [chancelref02_Lex.l0]
  by_cases hlt : a < l.length
  ·have hd : l.drop a = l[a] :: l.drop (a + 1) := List.drop_eq_getElem_cons hlt
   have hbt := bt_B l a hlt
   generalize hb : l[a] = b at hd hbt
   generalize hr : l.drop (a + 1) = r at hd
   have hdl : (b :: r).length = l.length - a := by rw [← hd, List.length_drop]
   rw [if_pos (by rw [zqM]; omega), if_pos (by omega), hbt]
   have hj : (if (b.toNat : Int) = 32 then chancelref02_Lex.j1 k (B l) acc (a : Int) (a : Int) true else chancelref02_Lex.j1 k (B l) acc (a : Int) (a : Int) ((b.toNat : Int) == 10)) = chancelref02_Lex.j1 k (B l) acc (a : Int) (a : Int) (decide (b.toNat = 32) || decide (b.toNat = 10)) := by
    by_cases h : b.toNat = 32
    ·rw [if_pos (by omega)]; simp [h]
    ·rw [if_neg (by omega)]
     have e1 : decide (b.toNat = 32) = false := by simpa using h
     have e2 : ((b.toNat : Int) == 10) = decide (b.toNat = 10) := by
      by_cases h' : b.toNat = 10
      ·simp [h']
      ·have : ¬ ((b.toNat : Int) = 10) := by omega
       simp [h', this]
     rw [e1, e2, Bool.false_or]
   rw [hj, hd]
   obtain ⟨k, rfl⟩ : ∃ m, k = m + 1 := ⟨k - 1, by omega⟩
   simp only [chancelref02_Lex.j1]
   by_cases hbl : b.toNat = 32 ∨ b.toNat = 10
   ·rw [if_pos (by simpa using hbl), wrap_id (by omega) (by omega)]
    have hb2 : b = 32 ∨ b = 10 := by
     rcases hbl with h | h
     ·exact .inl (UInt8.toNat_inj.1 (by rw [h]; rfl))
     ·exact .inr (UInt8.toNat_inj.1 (by rw [h]; rfl))
    rw [tokL_blank b hb2, ← hr]
    exact ih (d - 1) (by omega) k (a + 1) acc (by omega) (by omega) (by omega) (by omega)
   ·rw [if_neg (by simpa using hbl), if_pos (by omega), if_pos (by rw [zqM]; omega)]
    by_cases h35 : b.toNat = 35
    ·rw [if_pos (by omega)]
     obtain ⟨n, hn⟩ : ∃ n, ((l.drop a).takeWhile (· != 10)).length = n := ⟨_, rfl⟩
     have hle : n ≤ l.length - a := by rw [← hn, ← List.length_drop]; exact tw_le _ _
     have hn1 : 1 ≤ n := by
      rw [← hn, hd, List.takeWhile_cons, if_pos]
      ·simp
      ·rw [bne_iff_ne]; intro e; rw [e] at h35; exact absurd h35 (by decide)
     have ht : tokL (b :: r) = tokL (l.drop (a + n)) := by
      have hnx : nextL (b :: r) = ⟨0, [], 0, ((b :: r).takeWhile (· != 10)).length, true⟩ := by rw [nextL_cons, if_pos h35]
      rw [tokL_cons, hnx]
      simp only [if_true]
      rw [if_neg (by omega)]
      rw [hd] at hn
      rw [hn, ← hd, List.drop_drop]
     obtain ⟨K, rfl⟩ : ∃ K, k = K + n + 1 := ⟨k - n - 1, by omega⟩
     rw [note_ref l hl acc K n a h1 hn, ht]
     exact ih (d - n) (by omega) K (a + n) acc (by omega) (by omega) (by omega) (by omega)
    ·rw [if_neg (by omega), hbt, letter_ref, Option.bind_some, digit_ref, Option.bind_some]
     have hj3 : (if isLet b = true then chancelref02_Lex.j3 k (B l) acc (a : Int) (a : Int) true else chancelref02_Lex.j3 k (B l) acc (a : Int) (a : Int) (isDig b)) = chancelref02_Lex.j3 k (B l) acc (a : Int) (a : Int) (zqH b) := by
      unfold zqH
      cases isLet b with
      | true => rw [if_pos rfl]; rfl
      | false => rw [if_neg (by simp), Bool.false_or]
     rw [hj3]
     obtain ⟨k, rfl⟩ : ∃ m, k = m + 1 := ⟨k - 1, by omega⟩
     simp only [chancelref02_Lex.j3]
     cases hW : zqH b with
     | true =>
      rw [if_pos rfl]
      obtain ⟨n, hn⟩ : ∃ n, ((l.drop a).takeWhile (runP b)).length = n := ⟨_, rfl⟩
      have hle : n ≤ l.length - a := by rw [← hn, ← List.length_drop]; exact tw_le _ _
      have hpb : runP b b = true := by
       unfold zqH at hW
       cases hL : isLet b with
       | true => simp [runP, hL]
       | false => rw [hL, Bool.false_or] at hW; simp [runP, hW]
      have hn1 : 1 ≤ n := by
       rw [← hn, hd, List.takeWhile_cons, if_pos hpb]; simp
      obtain ⟨K, rfl⟩ : ∃ K, k = K + n + 1 := ⟨k - n - 1, by omega⟩
      rw [run_ref l hl a hlt acc K n a (Nat.le_refl _) h1 (by rw [hb]; exact hn), show a + n - a = n by omega, word_eq _ K (by omega), Option.bind_some]
      have hrun : (l.drop a).take n = (b :: r).takeWhile (runP b) := by rw [← hn, tw_take, hd]
      rw [hrun]
      have hdrop : (b :: r).drop n = l.drop (a + n) := by rw [← hd, List.drop_drop]
      rw [hd] at hn
      have hrc : (b :: r).takeWhile (runP b) = b :: r.takeWhile (runP b) := by rw [List.takeWhile_cons, if_pos hpb]
      cases hD : isDig b with
      | true =>
       have hL : isLet b = false := by
        cases h : isLet b with
        | false => rfl
        | true => rw [let_dig b h] at hD; cases hD
       have hp : runP b = isDig := by funext c; simp [runP, hL]
       rw [hp] at hn hrc ⊢
       have hk : isKey (B ((b :: r).takeWhile isDig)) = false := by
        rw [Bool.eq_false_iff, hrc]; intro h; rw [key_let h] at hL; cases hL
       have hnm : nameL ((b :: r).takeWhile isDig) = false := by
        rw [Bool.eq_false_iff, hrc]; intro h; rw [name_let h] at hL; cases hL
       have hall : ((b :: r).takeWhile isDig).all isDig = true := tw_sat _ _
       have hg := num_dig _ hall
       have hnx : nextL (b :: r) = ⟨2, (b :: r).takeWhile isDig, (numOf (B ((b :: r).takeWhile isDig))).1, ((b :: r).takeWhile isDig).length, (numOf (B ((b :: r).takeWhile isDig))).2⟩ := by
        rw [nextL_cons, if_neg h35, if_neg hbl, if_pos hD]
       rw [tokL_cons, hnx]
       generalize (b :: r).takeWhile isDig = X at *
       by_cases hgood : goodNum X = true
       ·have hwr : wordR X = (2, B X, (valD 0 X : Int), true) := by unfold wordR; rw [hk, hnm, hgood]; rfl
        rw [hwr, hg, hgood]
        simp only [if_true]
        rw [if_pos (by omega), if_pos (by decide), hn, hdrop, num_val hgood, ih (d - n) (by omega) K (a + n) _ (by omega) (by omega) (by simp; omega) (by omega)]
        cases tokL (l.drop (a + n)) with
        | none => rfl
        | some ts => simp [resR, rT]
       ·have hgood' : goodNum X = false := by simpa using hgood
        have hwr : wordR X = (2, B X, 0, false) := by unfold wordR; rw [hk, hnm, hgood']; rfl
        rw [hwr, hg, hgood']
        simp [resR]
      | false =>
       have hL : isLet b = true := by unfold zqH at hW; rw [hD, Bool.or_false] at hW; exact hW
       have hp : runP b = zqH := by funext c; simp [runP, hL, zqH, Bool.or_comm]
       rw [hp] at hn hrc ⊢
       have hg : goodNum ((b :: r).takeWhile zqH) = false := by
        rw [Bool.eq_false_iff]; intro h
        have := good_dig h
        rw [hrc, List.all_cons, hD] at this; cases this
       have hnx : nextL (b :: r) = wordTok ((b :: r).takeWhile zqH) := by
        rw [nextL_cons, if_neg h35, if_neg hbl, if_neg (by rw [hD]; simp), if_pos hW]
       rw [tokL_cons, hnx]
       generalize (b :: r).takeWhile zqH = X at *
       by_cases hk : isKey (B X) = true
       ·have hwr : wordR X = (3, B X, 0, true) := by unfold wordR; rw [if_pos hk]
        have hwt : wordTok X = ⟨3, X, 0, X.length, true⟩ := by unfold wordTok; rw [if_pos hk]
        rw [hwr, hwt]
        simp only [if_true]
        rw [if_pos (by omega), if_pos (by decide), hn, hdrop, ih (d - n) (by omega) K (a + n) _ (by omega) (by omega) (by simp; omega) (by omega)]
        cases tokL (l.drop (a + n)) with
        | none => rfl
        | some ts => simp [resR, rT]
       ·have hwt : wordTok X = ⟨1, X, 0, X.length, nameL X⟩ := by unfold wordTok; rw [if_neg hk]
        by_cases hnm : nameL X = true
        ·have hwr : wordR X = (1, B X, 0, true) := by unfold wordR; rw [if_neg hk, if_pos hnm]
         rw [hwr, hwt, hnm]
         simp only [if_true]
         rw [if_pos (by omega), if_pos (by decide), hn, hdrop, ih (d - n) (by omega) K (a + n) _ (by omega) (by omega) (by simp; omega) (by omega)]
         cases tokL (l.drop (a + n)) with
         | none => rfl
         | some ts => simp [resR, rT]
        ·have hnm' : nameL X = false := by simpa using hnm
         have hwr : wordR X = (2, B X, 0, false) := by unfold wordR; rw [if_neg hk, if_neg hnm, hg]; rfl
         rw [hwr, hwt, hnm']
         simp [resR]
     | false =>
      have hD : isDig b = false := by unfold zqH at hW; cases h : isDig b with
       | false => rfl
       | true => rw [h] at hW; simp at hW
      rw [if_neg (by simp), if_pos (by omega), if_pos (by rw [zqM]; omega)]
      have hex : (B l).extract ((a : Int)).toNat (B l).size = B (b :: r) := by
       rw [Int.toNat_natCast, B_extract, zqM, hd, List.take_of_length_le (by rw [hdl]; omega)]
      rw [hex, refMark_eq _ (by omega) k (by omega), Option.bind_some, B_toList]
      have hnx := nextL_cons b r
      rw [if_neg h35, if_neg hbl, if_neg (by rw [hD]; simp), if_neg (by rw [hW]; simp)] at hnx
      rw [tokL_cons, hnx]
      cases hm : markL (b :: r) with
      | none => simp [resR]
      | some m =>
       have hne := mark_ne hm
       have hml : m.length ≤ (b :: r).length := by
        have := (markL_mem hm).2
        exact ((pre_take _ _).1 this).1
       have hm1 : 1 ≤ m.length := by cases m with
        | nil => exact absurd rfl hne
        | cons => simp
       have hdrop : (b :: r).drop m.length = l.drop (a + m.length) := by rw [← hd, List.drop_drop]
       simp only [Option.getD_some, if_true]
       rw [if_neg hne, if_pos (by omega), if_pos (by decide), zqM, wrap_id (by omega) (by omega), hdrop,
        show ((a : Int) + (m.length : Int)) = ((a + m.length : Nat) : Int) from rfl, ih (d - m.length) (by omega) k (a + m.length) _ (by omega) (by omega) (by simp; omega) (by omega)]
       cases tokL (l.drop (a + m.length)) with
       | none => rfl
       | some ts => simp [resR, rT]
  ·obtain rfl : a = l.length := by omega
   rw [if_neg (by rw [zqM]; omega), List.drop_length, tokL_nil]
   simp [resR]
end Go.Proofs.YtchekgnacodolaaGreatDoor.X
end
section
namespace Go.Proofs.YtchekgnacodolaaGreatDoor.X
open Go.RowKit Go.Proofs.YtchekgnacodolaaGreatDoorW.PrintWords
set_option linter.unusedSimpArgs false
set_option linter.unusedVariables false
theorem refLex_eq (l : List UInt8) (hl : l.length ≤ 9223372036854775807) (k : Nat) (hk : 400000 < k) : chancelref02_Lex.f k (B l) = some ((lexR l).1.map rT, (lexR l).2) := by
 unfold chancelref02_Lex.f lexR
 rw [zqM]
 by_cases h : l.length > 65536
 ·rw [if_pos (by omega), if_pos h]; rfl
 ·rw [if_neg (by omega), if_neg h]
  have := refLex_loop l (by omega) l.length k 0 [] (by omega) (by omega) (by simp; omega) (by omega)
  rw [show ((0 : Nat) : Int) = 0 from rfl, List.drop_zero] at this
  rw [this]
  cases tokL l with
  | none => rfl
  | some ts => simp [resR]
theorem rd_tok (l : List TokT) (i : Nat) (h : i < l.length) : zqw l (i : Int) = l[i] := by
 unfold zqw; simp [List.getD_eq_getElem?_getD, List.getElem?_eq_getElem h]
theorem rd_rtok (l : List RTok) (i : Nat) (h : i < l.length) : zqy l (i : Int) = l[i] := by
 unfold zqy; simp [List.getD_eq_getElem?_getD, List.getElem?_eq_getElem h]
theorem refToks_loop (l : List TokT) (hl : l.length ≤ 4000000000000) (d : Nat) : ∀ (k i : Nat), i ≤ l.length → l.length - i = d → d < k →
  chancellaw05_refToks.l0 k l ((l.take i).map rT) (i : Int) = some (l.map rT) := by
 induction d with
 | zero =>
  intro k i h1 h2 h3
  obtain ⟨k, rfl⟩ : ∃ m, k = m + 1 := ⟨k - 1, by omega⟩
  obtain rfl : i = l.length := by omega
  simp only [chancellaw05_refToks.l0]
  rw [if_neg (by omega), List.take_length]
 | succ d ih =>
  intro k i h1 h2 h3
  obtain ⟨k, rfl⟩ : ∃ m, k = m + 1 := ⟨k - 1, by omega⟩
  have hlt : i < l.length := by omega
  have hgo := ih k (i + 1) (by omega) (by omega) (by omega)
  simp only [chancellaw05_refToks.l0]
  rw [if_pos (by omega), if_pos (by omega), if_pos (by rw [List.length_map, List.length_take]; omega), wrap_id (by omega) (by omega), rd_tok l i hlt]
  rw [List.take_succ_eq_append_getElem hlt, List.map_append] at hgo
  exact hgo
theorem refToks_eq (l : List TokT) (hl : l.length ≤ 4000000000000) (k : Nat) (hk : l.length < k) : chancellaw05_refToks.f k l = some (l.map rT) :=
 refToks_loop l hl l.length k 0 (by omega) (by omega) hk
theorem mark_has (d : List UInt8) : (markL d == some d) = (markWords.any fun x => x.data.toList == d) := by
 rw [Bool.eq_iff_iff, beq_iff_eq, List.any_eq_true]
 constructor
 ·intro h
  obtain ⟨x, hx, he⟩ := List.mem_map.1 (markL_mem h).1
  exact ⟨x, hx, by simpa using he⟩
 ·rintro ⟨x, hx, he⟩
  have : markWords.all (fun m => markL m.data.toList == some m.data.toList) = true := by decide +kernel
  have h := List.all_eq_true.1 this x hx
  rw [show x.data.toList = d by simpa using he] at h
  simpa using h
theorem refRight_one (t : TokT) (k : Nat) (hk : 100 < k) : chancelref02_right.f k t.f0 t.f1 t.f2 = some (rightT t) := by
 obtain ⟨f0, f1, f2⟩ := t
 obtain ⟨d, rfl⟩ : ∃ d, f1 = B d := ⟨_, (B_of f1).symm⟩
 unfold chancelref02_right.f rightT
 simp only [B_list]
 by_cases h1 : f0 = 1
 ·subst h1
  rw [if_pos rfl, if_pos (.inl rfl), refName_eq d k (by omega), Option.bind_some, refKey_eq _ k (by omega)]
  unfold wordTok
  cases hk : isKey (B d) with
  | true => cases nameL d <;> simp
  | false => cases nameL d <;> simp
 ·rw [if_neg h1]
  by_cases h2 : f0 = 2
  ·subst h2
   rw [if_pos rfl, if_neg (by decide), if_pos rfl, refNum_eq d k hk, Option.bind_some, num_good]
   by_cases hg : goodNum d = true
   ·rw [if_pos hg, if_pos rfl, hg, num_val hg]; simp
   ·rw [if_neg hg, if_neg (by simp)]
    have : goodNum d = false := by simpa using hg
    rw [this]; simp
  ·rw [if_neg h2]
   by_cases h3 : f0 = 3
   ·subst h3
    rw [if_pos rfl, if_pos (.inr rfl), refKey_eq _ k (by omega), Option.bind_some]
    unfold wordTok
    cases hk : isKey (B d) with
    | true => simp
    | false => simp
   ·have h13 : ¬ (f0 = 1 ∨ f0 = 3) := by rintro (h | h) <;> contradiction
    rw [if_neg h3, if_neg h13, if_neg h2]
    by_cases h4 : f0 = 4
    ·subst h4
     rw [if_pos rfl, if_pos rfl]
     show (some markWords).bind _ = _
     rw [Option.bind_some, has_eq markWords _ (by decide) k (Nat.lt_trans (by decide) hk), Option.bind_some, B_list, mark_has]
     cases (markWords.any fun x => x.data.toList == d) <;> simp
    ·rw [if_neg h4, if_neg h4]
theorem refRight_loop (l : List TokT) (hl : l.length ≤ 4000000000000) (d : Nat) : ∀ (k i : Nat), i ≤ l.length → l.length - i = d → 200 + d < k →
  chancelref02_Right.l0 k (l.map rT) (i : Int) = some ((l.drop i).all rightT) := by
 induction d with
 | zero =>
  intro k i h1 h2 h3
  obtain ⟨k, rfl⟩ : ∃ m, k = m + 1 := ⟨k - 1, by omega⟩
  obtain rfl : i = l.length := by omega
  simp only [chancelref02_Right.l0]
  rw [if_neg (by rw [List.length_map]; omega), List.drop_length]; rfl
 | succ d ih =>
  intro k i h1 h2 h3
  obtain ⟨k, rfl⟩ : ∃ m, k = m + 1 := ⟨k - 1, by omega⟩
  have hlt : i < l.length := by omega
  have hgo := ih k (i + 1) (by omega) (by omega) (by omega)
  simp only [chancelref02_Right.l0]
  rw [if_pos (by rw [List.length_map]; omega), if_pos (by omega), rd_rtok (l.map rT) i (by rw [List.length_map]; exact hlt), wrap_id (by omega) (by omega), List.drop_eq_getElem_cons hlt, List.all_cons, List.getElem_map]
  have h1 := refRight_one l[i] k (by omega)
  show (chancelref02_right.f k l[i].f0 l[i].f1 l[i].f2).bind _ = _
  rw [h1, Option.bind_some]
  cases rightT l[i] with
  | true => rw [if_pos rfl, Bool.true_and]; exact hgo
  | false => rw [if_neg (by simp)]; rfl
theorem refRight_eq (l : List TokT) (hl : l.length ≤ 4000000000000) (k : Nat) (hk : 200 + l.length < k) : chancelref02_Right.f k (l.map rT) = some (l.all rightT) := by
 have := refRight_loop l hl l.length k 0 (by omega) (by omega) hk
 rw [List.drop_zero] at this
 exact this
abbrev ReadsR (w : World) (A : Option Addr) (c : Nat) (l : List RTok) : Prop := Kd.C k107 w A l.length l ∧ l.length ≤ c
theorem ReadsR.below {w w1 : World} {A : Option Addr} {c : Nat} {l : List RTok} (h : ReadsR w A c l) (hb : Below w.heap.size w w1) : ReadsR w1 A c l := ⟨Kd.C_below h.1 hb, h.2⟩
theorem refLexC (l : List UInt8) (hl : l.length ≤ 9223372036854775807) (w : World) :
  Calls Tryz.prog 58 #[.string (B l)] w fun e w' => ∃ A c, e = .returned (.tuple #[.slice A (lexR l).1.length c, .int .i64 (lexR l).2]) ∧ ReadsR w' A c ((lexR l).1.map rT) ∧ Below w.heap.size w w' := by
 refine (chancelref02_Lex.calls 400001 (B l) ((lexR l).1.map rT) (lexR l).2 w (refLex_eq l hl _ (by omega))).mono ?_
 rintro e w' ⟨v, rfl, hR, hb⟩
 obtain ⟨A, c, rfl, hc, hC⟩ := Kd.R_reads hR
 exact ⟨A, c, by rw [List.length_map], ⟨hC, hc⟩, hb⟩
theorem refToksC (l : List TokT) (hl : l.length ≤ 4000000000000) (A : Option Addr) (c : Nat) (w : World) (hr : Reads w A c l) :
  Calls Tryz.prog 21 #[.slice A l.length c] w fun e w' => ∃ A c, e = .returned (.slice A l.length c) ∧ ReadsR w' A c (l.map rT) ∧ Below w.heap.size w w' := by
 refine (chancellaw05_refToks.calls (l.length + 1) A c l (l.map rT) w hr.1 hr.2 (refToks_eq l hl _ (by omega))).mono ?_
 rintro e w' ⟨v, rfl, hR, hb⟩
 obtain ⟨A, c, rfl, hc, hC⟩ := Kd.R_reads hR
 exact ⟨A, c, by rw [List.length_map], ⟨hC, hc⟩, hb⟩
theorem refRightC (l : List TokT) (hl : l.length ≤ 4000000000000) (A : Option Addr) (c : Nat) (w : World) (hr : ReadsR w A c (l.map rT)) :
  Calls Tryz.prog 53 #[.slice A l.length c] w fun e w' => e = .returned (.bool (l.all rightT)) ∧ Below w.heap.size w w' := by
 have h := chancelref02_Right.calls (l.length + 201) A c (l.map rT) (l.all rightT) w hr.1 hr.2 (refRight_eq l hl _ (by omega))
 rw [List.length_map] at h
 exact h
end Go.Proofs.YtchekgnacodolaaGreatDoor.X
end
section
namespace Go.Proofs.YtchekgnacodolaaGreatDoor.X
set_option linter.unusedSimpArgs false
set_option linter.unusedVariables false
def ReadsAs (l : List TokT) (t : Tm) : Prop := ∀ s, Stops s → isL s mSeq = false → Reads_ .all (l ++ s) (some (t, s))
theorem ReadsAs.part {l : List TokT} {t : Tm} (h : ReadsAs l t) (s : List TokT) : Reads_ .part (zqG mOpen :: l ++ zqG mClose :: s) (some (t, s)) := by
 rw [List.cons_append]
 exact part_paren (h (zqG mClose :: s) (stops_mark (by simp [stopWords]) _) (by rw [isL_mark]; decide)) (by rw [isL_mark]; decide)
theorem ReadsAs.parse {l : List TokT} {t : Tm} (h : ReadsAs l t) : parseL l = some (t, []) := by
 have := (h [] Stops.nil (isL_nil _)).parse
 rwa [List.append_nil] at this
theorem ReadsAs.seq {l m : List TokT} {t u : Tm} (h : ReadsAs l t) (k : ReadsAs m u) : ReadsAs (zqG mOpen :: l ++ [zqG mClose] ++ zqG mSeq :: m) (tm 13 noName [t, u]) := by
 intro s hs hq
 have e : zqG mOpen :: l ++ [zqG mClose] ++ zqG mSeq :: m ++ s = zqG mOpen :: l ++ zqG mClose :: (zqG mSeq :: (m ++ s)) := by simp
 rw [e]
 refine Ev.step (Ev.then_ (one_part (.mark _) (h.part (zqG mSeq :: (m ++ s))) (stops_mark (by simp [stopWords]) _)) (Ev.pos (by rw [isL_mark]; decide) (Ev.then_ (k s hs hq) (Ev.now _))))
end Go.Proofs.YtchekgnacodolaaGreatDoor.X
end

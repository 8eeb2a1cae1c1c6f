import Derived.Test.YtchekgnacodolaaGreatDoorLexC
import Derived.Test.YtchekgnacodolaaGreatDoorLexQ
import Derived.Lib.ItoaNum
import Derived.Lib.ItoaMem
/- chancel/parse and chancel/term in plain words: tokens read as a term. -/
namespace Go.Proofs.YtchekgnacodolaaGreatDoor.X
set_option linter.unusedSimpArgs false
set_option linter.unusedVariables false

/-! ### terms -/
abbrev Tm := S26
theorem Tm.ind {P : Tm → Prop} (h : ∀ a b c l, (∀ t ∈ l, P t) → P ⟨a, b, c, l⟩) (t : Tm) : P t :=
  S26.rec (motive_1 := P) (motive_2 := fun l => ∀ t ∈ l, P t) (fun a b c l ih => h a b c l ih) (fun _ hm => by cases hm)
    (fun x l ihx ihl t hm => (List.mem_cons.1 hm).elim (fun e => e ▸ ihx) (ihl t)) t
mutual
def sizeT : Tm → Nat
  | ⟨_, _, _, kids⟩ => 1 + sizesT kids
def sizesT : List Tm → Nat
  | [] => 0
  | t :: r => sizeT t + sizesT r
end
mutual
def depthT : Tm → Nat
  | ⟨_, _, _, kids⟩ => depthsT kids + 1
def depthsT : List Tm → Nat
  | [] => 0
  | t :: r => max (depthT t) (depthsT r)
end
mutual
def sameTm : Tm → Tm → Bool
  | ⟨a, b, c, l⟩, ⟨a', b', c', l'⟩ => a == a' && (b.toList == b'.toList && (c == c' && samesTm l l'))
def samesTm : List Tm → List Tm → Bool
  | [], [] => true
  | t :: r, t' :: r' => sameTm t t' && samesTm r r'
  | _, _ => false
end
theorem bytes_eq {a b : ByteArray} (h : a.toList = b.toList) : a = b := by
  rw [ByteArray.toList_eq, ByteArray.toList_eq] at h
  rw [← B_of a, ← B_of b, h]
theorem sameTm_iff : ∀ t u : Tm, sameTm t u = true ↔ t = u := by
  have key : ∀ t : Tm, ∀ u, sameTm t u = true ↔ t = u := by
    intro t
    induction t using Tm.ind with
    | h a b c l ih =>
      rintro ⟨a', b', c', l'⟩
      have hl : ∀ (l l' : List Tm), (∀ t ∈ l, ∀ u, sameTm t u = true ↔ t = u) → (samesTm l l' = true ↔ l = l') := by
        intro l
        induction l with
        | nil => intro l' _; cases l' <;> simp [samesTm]
        | cons t r ihr =>
          intro l' h
          cases l' with
          | nil => simp [samesTm]
          | cons t' r' =>
            rw [samesTm, Bool.and_eq_true, h t (by simp), ihr r' fun x hx => h x (by simp [hx])]
            simp
      rw [sameTm]
      simp only [Bool.and_eq_true, beq_iff_eq, hl l l' ih]
      constructor
      · rintro ⟨rfl, hb, rfl, rfl⟩
        rw [bytes_eq hb]
      · intro h
        injection h with h1 h2 h3 h4
        exact ⟨h1, by rw [h2], h3, h4⟩
  exact key
theorem sameTm_self (t : Tm) : sameTm t t = true := (sameTm_iff t t).2 rfl

/-! ### the reader -/
def peekL (s : List TokT) : TokT := s.headD ⟨0, ⟨#[]⟩, 0⟩
def isL (s : List TokT) (m : ByteArray) : Bool := decide (3 ≤ (peekL s).f0) && ((peekL s).f1.data.toList == m.data.toList)
def beginsL (s : List TokT) : Bool := decide ((peekL s).f0 = 1) || (decide ((peekL s).f0 = 2) || (isL s ⟨#[40]⟩ || isL s ⟨#[33]⟩))
theorem isL_nil (m : ByteArray) : isL [] m = false := by simp [isL, peekL]
theorem beginsL_nil : beginsL [] = false := by simp [beginsL, isL_nil]; simp [peekL]
theorem isL_ne {s : List TokT} {m : ByteArray} (h : isL s m = true) : ∃ t r, s = t :: r := by
  cases s with
  | nil => rw [isL_nil] at h; cases h
  | cons t r => exact ⟨t, r, rfl⟩
theorem peek_ne {s : List TokT} (h : (peekL s).f0 ≠ 0) : ∃ t r, s = t :: r := by
  cases s with
  | nil => exact absurd rfl h
  | cons t r => exact ⟨t, r, rfl⟩
/-- A name and a mark. -/
def boundL (s : List TokT) (m : ByteArray) : Option (ByteArray × List TokT) :=
  if (peekL s).f0 = 1 then if isL s.tail m = true then some ((peekL s).f1, s.tail.tail) else none else none
/-- What a reader tells, by rounds: none: too few; 'some none': it fails. -/
abbrev PR := Option (Option (Tm × List TokT))
def PR.then_ (r : PR) (f : Tm → List TokT → PR) : PR := match r with
  | none => none
  | some none => some none
  | some (some (t, s)) => f t s
def PR.key (r : PR) (m : ByteArray) (f : Tm → List TokT → PR) : PR := r.then_ fun t s => if isL s m = true then f t s.tail else some none
def PR.name (o : Option (ByteArray × List TokT)) (f : ByteArray → List TokT → PR) : PR := match o with
  | none => some none
  | some (n, s) => f n s
def PR.ret (t : Tm) (s : List TokT) : PR := some (some (t, s))
abbrev noName : ByteArray := ⟨#[]⟩
def tm (k : Int) (nm : ByteArray) (kids : List Tm) : Tm := ⟨k, nm, 0, kids⟩
def opWords : List ByteArray := [⟨#[43]⟩, ⟨#[45]⟩, ⟨#[42]⟩, ⟨#[60]⟩, ⟨#[61]⟩]
def kFun : ByteArray := ⟨#[102, 117, 110]⟩
def kLet : ByteArray := ⟨#[108, 101, 116]⟩
def kIn : ByteArray := ⟨#[105, 110]⟩
def kIf : ByteArray := ⟨#[105, 102]⟩
def kThen : ByteArray := ⟨#[116, 104, 101, 110]⟩
def kElse : ByteArray := ⟨#[101, 108, 115, 101]⟩
def kWhile : ByteArray := ⟨#[119, 104, 105, 108, 101]⟩
def kDo : ByteArray := ⟨#[100, 111]⟩
def kRaise : ByteArray := ⟨#[114, 97, 105, 115, 101]⟩
def kTry : ByteArray := ⟨#[116, 114, 121]⟩
def kWith : ByteArray := ⟨#[119, 105, 116, 104]⟩
def mArrow : ByteArray := ⟨#[61, 62]⟩
def mSet : ByteArray := ⟨#[58, 61]⟩
def mOpen : ByteArray := ⟨#[40]⟩
def mClose : ByteArray := ⟨#[41]⟩
def mSeq : ByteArray := ⟨#[59]⟩
def mEq : ByteArray := ⟨#[61]⟩
def mGet : ByteArray := ⟨#[33]⟩
inductive Mode where
  | part
  | apps (t : Tm)
  | parts
  | plain
  | one
  | all
def run : Nat → Mode → List TokT → PR
  | 0, _, _ => none
  | k + 1, .part, s =>
    if isL s mGet = true then (run k .part s.tail).then_ fun t s => PR.ret (tm 10 noName [t]) s
    else if isL s mOpen = true then (run k .all s.tail).key mClose PR.ret
    else if (peekL s).f0 = 1 then PR.ret (tm 2 (peekL s).f1 []) s.tail
    else if (peekL s).f0 = 2 then PR.ret ⟨1, noName, (peekL s).f2, []⟩ s.tail
    else some none
  | k + 1, .apps t, s => if beginsL s = true then (run k .part s).then_ fun u s => run k (.apps (tm 4 noName [t, u])) s else PR.ret t s
  | k + 1, .parts, s => (run k .part s).then_ fun t s => run k (.apps t) s
  | k + 1, .plain, s => (run k .parts s).then_ fun t s =>
    if isL s mSet = true then (run k .one s.tail).then_ fun u s => PR.ret (tm 11 noName [t, u]) s
    else match opWords.find? (isL s) with
      | some o => (run k .parts s.tail).then_ fun u s => PR.ret (tm 12 o [t, u]) s
      | none => PR.ret t s
  | k + 1, .one, s =>
    if isL s kFun = true then PR.name (boundL s.tail mArrow) fun n s => (run k .all s).then_ fun x s => PR.ret (tm 3 n [x]) s
    else if isL s kLet = true then PR.name (boundL s.tail mEq) fun n s => (run k .all s).key kIn fun x s => (run k .all s).then_ fun y s => PR.ret (tm 5 n [x, y]) s
    else if isL s kIf = true then (run k .all s.tail).key kThen fun c s => (run k .all s).key kElse fun x s => (run k .all s).then_ fun y s => PR.ret (tm 6 noName [c, x, y]) s
    else if isL s kWhile = true then (run k .all s.tail).key kDo fun c s => (run k .all s).then_ fun x s => PR.ret (tm 7 noName [c, x]) s
    else if isL s kRaise = true then (run k .one s.tail).then_ fun x s => PR.ret (tm 8 noName [x]) s
    else if isL s kTry = true then (run k .all s.tail).key kWith fun x s => PR.name (boundL s mArrow) fun n s => (run k .all s).then_ fun y s => PR.ret (tm 9 n [x, y]) s
    else run k .plain s
  | k + 1, .all, s => (run k .one s).then_ fun t s => if isL s mSeq = true then (run k .all s.tail).then_ fun u s => PR.ret (tm 13 noName [t, u]) s else PR.ret t s

/-! ### enough rounds -/
theorem PR.then_mono {a a' : PR} {f f' : Tm → List TokT → PR} (h : ∀ r, a = some r → a' = some r) (hf : ∀ t s r, f t s = some r → f' t s = some r) : ∀ r, a.then_ f = some r → a'.then_ f' = some r := by
  intro r hr
  cases a with
  | none => cases hr
  | some x =>
    rw [h x rfl]
    cases x with
    | none => exact hr
    | some p => exact hf _ _ _ hr
theorem PR.name_mono {o : Option (ByteArray × List TokT)} {f f' : ByteArray → List TokT → PR} (hf : ∀ t s r, f t s = some r → f' t s = some r) : ∀ r, PR.name o f = some r → PR.name o f' = some r := by
  intro r hr
  cases o with
  | none => exact hr
  | some x => exact hf _ _ _ hr
theorem PR.ite_mono {c : Prop} [Decidable c] {a a' b b' : PR} (h : ∀ r, a = some r → a' = some r) (k : ∀ r, b = some r → b' = some r) : ∀ r, (if c then a else b) = some r → (if c then a' else b') = some r := by
  intro r hr
  split
  · rename_i hc; rw [if_pos hc] at hr; exact h r hr
  · rename_i hc; rw [if_neg hc] at hr; exact k r hr
theorem run_mono : ∀ k m s r, run k m s = some r → run (k + 1) m s = some r
  | 0, _, _, _, h => by cases h
  | k + 1, m, s, r, h => by
    have ih := run_mono k
    have same : ∀ (a : PR), ∀ r, a = some r → a = some r := fun _ _ h => h
    revert r
    cases m with
    | part =>
      show ∀ r, _ → _
      exact PR.ite_mono (PR.then_mono (ih _ _) fun _ _ => same _) (PR.ite_mono (PR.then_mono (ih _ _) fun _ _ => same _) (same _))
    | apps t => exact PR.ite_mono (PR.then_mono (ih _ _) fun _ _ => ih _ _) (same _)
    | parts => exact PR.then_mono (ih _ _) fun _ _ => ih _ _
    | plain =>
      refine PR.then_mono (ih _ _) fun t s => PR.ite_mono (PR.then_mono (ih _ _) fun _ _ => same _) ?_
      cases opWords.find? (isL s) with
      | none => exact same _
      | some o => exact PR.then_mono (ih _ _) fun _ _ => same _
    | one =>
      refine PR.ite_mono (PR.name_mono fun _ _ => PR.then_mono (ih _ _) fun _ _ => same _) (PR.ite_mono (PR.name_mono fun _ _ => PR.then_mono (ih _ _) fun _ _ => PR.ite_mono (PR.then_mono (ih _ _) fun _ _ => same _) (same _))
        (PR.ite_mono (PR.then_mono (ih _ _) fun _ _ => PR.ite_mono (PR.then_mono (ih _ _) fun _ _ => PR.ite_mono (PR.then_mono (ih _ _) fun _ _ => same _) (same _)) (same _))
        (PR.ite_mono (PR.then_mono (ih _ _) fun _ _ => PR.ite_mono (PR.then_mono (ih _ _) fun _ _ => same _) (same _))
        (PR.ite_mono (PR.then_mono (ih _ _) fun _ _ => same _)
        (PR.ite_mono (PR.then_mono (ih _ _) fun _ _ => PR.ite_mono (PR.name_mono fun _ _ => PR.then_mono (ih _ _) fun _ _ => same _) (same _)) (ih _ _))))))
    | all => exact PR.then_mono (ih _ _) fun _ _ => PR.ite_mono (PR.then_mono (ih _ _) fun _ _ => same _) (same _)
theorem run_more {k m s r} (h : run k m s = some r) : ∀ j, run (k + j) m s = some r
  | 0 => h
  | j + 1 => run_mono _ _ _ _ (run_more h j)
theorem run_le {k k' m s r} (h : run k m s = some r) (hk : k ≤ k') : run k' m s = some r := by
  have := run_more h (k' - k)
  rwa [Nat.add_sub_cancel' hk] at this
def Mode.rank : Mode → Nat
  | .part => 1
  | .apps _ => 2
  | .parts => 2
  | .plain => 3
  | .one => 4
  | .all => 5
/-- A result that has gone by at least d tokens. -/
def Went (d : Nat) (s : List TokT) (r : Option (Tm × List TokT)) : Prop := ∀ t s', r = some (t, s') → s' <:+ s ∧ s'.length + d ≤ s.length
def Ends (d : Nat) (s : List TokT) (a : PR) : Prop := ∃ r, a = some r ∧ Went d s r
theorem Ends.fail (d : Nat) (s : List TokT) : Ends d s (some none) := ⟨none, rfl, fun _ _ h => by cases h⟩
theorem Ends.ret {d : Nat} {s s' : List TokT} (t : Tm) (h : s' <:+ s) (hd : s'.length + d ≤ s.length) : Ends d s (PR.ret t s') :=
  ⟨_, rfl, fun _ _ e => by injection e with e; injection e with _ e; subst e; exact ⟨h, hd⟩⟩
theorem Ends.then_ {d d' : Nat} {s s0 : List TokT} {a : PR} {f : Tm → List TokT → PR} (h : Ends d s a) (hf : ∀ t s', s' <:+ s → s'.length + d ≤ s.length → Ends d' s0 (f t s')) : Ends d' s0 (a.then_ f) := by
  obtain ⟨r, rfl, hw⟩ := h
  cases r with
  | none => exact Ends.fail _ _
  | some p => exact hf p.1 p.2 (hw _ _ rfl).1 (hw _ _ rfl).2
theorem Ends.key {d d' : Nat} {s s0 : List TokT} {a : PR} {m : ByteArray} {f : Tm → List TokT → PR} (h : Ends d s a) (hf : ∀ t s', s' <:+ s → s'.length + (d + 1) ≤ s.length → Ends d' s0 (f t s')) : Ends d' s0 (a.key m f) :=
  h.then_ fun t s' h1 h2 => by
    split
    · rename_i hm
      obtain ⟨x, q, rfl⟩ := isL_ne hm
      exact hf t q (List.IsSuffix.trans (List.suffix_cons x q) h1) (by simp at h2; omega)
    · exact Ends.fail _ _
theorem Ends.name {d' : Nat} {s s0 : List TokT} {m : ByteArray} {f : ByteArray → List TokT → PR} (hf : ∀ n s', s' <:+ s → s'.length + 2 ≤ s.length → Ends d' s0 (f n s')) : Ends d' s0 (PR.name (boundL s m) f) := by
  unfold boundL
  split
  · rename_i h1
    obtain ⟨x, q, rfl⟩ := peek_ne (s := s) (by rw [h1]; decide)
    split
    · rename_i h2
      obtain ⟨y, q2, hq⟩ := isL_ne h2
      simp only [List.tail_cons] at hq
      subst hq
      exact hf _ q2 (List.IsSuffix.trans (List.suffix_cons y q2) (List.suffix_cons x _)) (by simp)
    · exact Ends.fail _ _
  · exact Ends.fail _ _
theorem Ends.ite {d : Nat} {s : List TokT} {c : Prop} [Decidable c] {a b : PR} (h : c → Ends d s a) (k : ¬ c → Ends d s b) : Ends d s (if c then a else b) := by
  split
  · exact h ‹_›
  · exact k ‹_›
theorem Ends.suffix {d : Nat} {s s0 : List TokT} {a : PR} {d' : Nat} (h : Ends d s a) (hs : s <:+ s0) (hd : s.length + d' ≤ s0.length + d) : Ends d' s0 a := by
  obtain ⟨r, rfl, hw⟩ := h
  refine ⟨r, rfl, fun t s' e => ?_⟩
  have := hw t s' e
  exact ⟨List.IsSuffix.trans this.1 hs, by omega⟩
def Mode.min : Mode → Nat
  | .apps _ => 0
  | _ => 1
theorem run_fin : ∀ k m s, m.rank + 8 * s.length ≤ k → Ends m.min s (run k m s)
  | 0, m, s, h => by cases m <;> simp [Mode.rank] at h
  | k + 1, m, s, h => by
    have ih := run_fin k
    have part_ : ∀ s', 1 + 8 * s'.length ≤ k → Ends 1 s' (run k .part s') := fun s' h => ih .part s' h
    have parts_ : ∀ s', 2 + 8 * s'.length ≤ k → Ends 1 s' (run k .parts s') := fun s' h => ih .parts s' h
    have plain_ : ∀ s', 3 + 8 * s'.length ≤ k → Ends 1 s' (run k .plain s') := fun s' h => ih .plain s' h
    have one_ : ∀ s', 4 + 8 * s'.length ≤ k → Ends 1 s' (run k .one s') := fun s' h => ih .one s' h
    have all_ : ∀ s', 5 + 8 * s'.length ≤ k → Ends 1 s' (run k .all s') := fun s' h => ih .all s' h
    have tl : ∀ (s : List TokT) m, isL s m = true → s.tail <:+ s ∧ s.tail.length + 1 = s.length := fun s m h => by
      obtain ⟨x, q, rfl⟩ := isL_ne h
      exact ⟨List.suffix_cons x q, by simp⟩
    have tp : ∀ (s : List TokT), (peekL s).f0 ≠ 0 → s.tail <:+ s ∧ s.tail.length + 1 = s.length := fun s h => by
      obtain ⟨x, q, rfl⟩ := peek_ne h
      exact ⟨List.suffix_cons x q, by simp⟩
    cases m with
    | part =>
      simp only [Mode.rank] at h
      refine Ends.ite (fun c => ?_) fun _ => Ends.ite (fun c => ?_) fun _ => Ends.ite (fun c => ?_) fun _ => Ends.ite (fun c => ?_) fun _ => Ends.fail _ _
      · obtain ⟨h1, h2⟩ := tl s _ c
        exact (part_ _ (by omega)).then_ fun t s' h3 h4 => Ends.ret _ (h3.trans h1) (by simp only [Mode.min]; omega)
      · obtain ⟨h1, h2⟩ := tl s _ c
        exact (all_ _ (by omega)).key fun t s' h3 h4 => Ends.ret _ (h3.trans h1) (by simp only [Mode.min]; omega)
      · obtain ⟨h1, h2⟩ := tp s (by rw [c]; decide)
        exact Ends.ret _ h1 (by simp only [Mode.min]; omega)
      · obtain ⟨h1, h2⟩ := tp s (by rw [c]; decide)
        exact Ends.ret _ h1 (by simp only [Mode.min]; omega)
    | apps t =>
      simp only [Mode.rank] at h
      refine Ends.ite (fun c => ?_) fun _ => Ends.ret _ (List.suffix_refl _) (Nat.le_refl _)
      exact (part_ s (by omega)).then_ fun u s' h3 h4 => Ends.suffix (ih (.apps _) s' (by simp only [Mode.rank]; omega)) h3 (by simp only [Mode.min]; omega)
    | parts =>
      simp only [Mode.rank] at h
      exact (part_ s (by omega)).then_ fun u s' h3 h4 => Ends.suffix (ih (.apps _) s' (by simp only [Mode.rank]; omega)) h3 (by simp only [Mode.min]; omega)
    | plain =>
      simp only [Mode.rank] at h
      refine (parts_ s (by omega)).then_ fun t s' h3 h4 => Ends.ite (fun c => ?_) fun _ => ?_
      · obtain ⟨h1, h2⟩ := tl s' _ c
        exact (one_ _ (by omega)).then_ fun u s2 h5 h6 => Ends.ret _ (h5.trans (h1.trans h3)) (by simp only [Mode.min]; omega)
      · cases hf : opWords.find? (isL s') with
        | none => exact Ends.ret _ h3 (by simp only [Mode.min]; omega)
        | some o =>
          obtain ⟨h1, h2⟩ := tl s' _ (List.find?_some hf)
          exact (parts_ _ (by omega)).then_ fun u s2 h5 h6 => Ends.ret _ (h5.trans (h1.trans h3)) (by simp only [Mode.min]; omega)
    | one =>
      simp only [Mode.rank] at h
      refine Ends.ite (fun c => ?_) fun _ => Ends.ite (fun c => ?_) fun _ => Ends.ite (fun c => ?_) fun _ => Ends.ite (fun c => ?_) fun _ => Ends.ite (fun c => ?_) fun _ => Ends.ite (fun c => ?_) fun _ => plain_ s (by omega)
      · obtain ⟨h1, h2⟩ := tl s _ c
        exact Ends.name fun n s' h3 h4 => (all_ s' (by omega)).then_ fun x s2 h5 h6 => Ends.ret _ (h5.trans (h3.trans h1)) (by simp only [Mode.min]; omega)
      · obtain ⟨h1, h2⟩ := tl s _ c
        exact Ends.name fun n s' h3 h4 => (all_ s' (by omega)).key fun x s2 h5 h6 => (all_ s2 (by omega)).then_ fun y s3 h7 h8 => Ends.ret _ (h7.trans (h5.trans (h3.trans h1))) (by simp only [Mode.min]; omega)
      · obtain ⟨h1, h2⟩ := tl s _ c
        exact (all_ _ (by omega)).key fun c' s' h3 h4 => (all_ s' (by omega)).key fun x s2 h5 h6 => (all_ s2 (by omega)).then_ fun y s3 h7 h8 => Ends.ret _ (h7.trans (h5.trans (h3.trans h1))) (by simp only [Mode.min]; omega)
      · obtain ⟨h1, h2⟩ := tl s _ c
        exact (all_ _ (by omega)).key fun c' s' h3 h4 => (all_ s' (by omega)).then_ fun x s2 h5 h6 => Ends.ret _ (h5.trans (h3.trans h1)) (by simp only [Mode.min]; omega)
      · obtain ⟨h1, h2⟩ := tl s _ c
        exact (one_ _ (by omega)).then_ fun c' s' h3 h4 => Ends.ret _ (h3.trans h1) (by simp only [Mode.min]; omega)
      · obtain ⟨h1, h2⟩ := tl s _ c
        exact (all_ _ (by omega)).key fun c' s' h3 h4 => Ends.name fun n s2 h5 h6 => (all_ s2 (by omega)).then_ fun y s3 h7 h8 => Ends.ret _ (h7.trans (h5.trans (h3.trans h1))) (by simp only [Mode.min]; omega)
    | all =>
      simp only [Mode.rank] at h
      refine (one_ s (by omega)).then_ fun t s' h3 h4 => Ends.ite (fun c => ?_) fun _ => Ends.ret _ h3 (by simp only [Mode.min]; omega)
      obtain ⟨h1, h2⟩ := tl s' _ c
      exact (all_ _ (by omega)).then_ fun u s2 h5 h6 => Ends.ret _ (h5.trans (h1.trans h3)) (by simp only [Mode.min]; omega)

/-! ### all -/
/-- What tokens are read as; none: the grammar does not go on. -/
def parseL (s : List TokT) : Option (Tm × List TokT) := (run (8 * s.length + 5) .all s).getD none
theorem parseL_run (s : List TokT) : run (8 * s.length + 5) .all s = some (parseL s) := by
  obtain ⟨r, h, _⟩ := run_fin (8 * s.length + 5) .all s (by simp only [Mode.rank]; omega)
  rw [parseL, h]; rfl
theorem parseL_of {k : Nat} {s : List TokT} {r : Option (Tm × List TokT)} (h : run k .all s = some r) : parseL s = r := by
  have h1 := parseL_run s
  have h2 := run_le h (Nat.le_max_left k (8 * s.length + 5))
  have h3 := run_le h1 (Nat.le_max_right k (8 * s.length + 5))
  rw [h2] at h3
  exact (Option.some.inj h3).symm
def nestStep (p : Int × Int) (t : TokT) : Int × Int :=
  if t.f0 ≠ 4 then p else
    let n := if t.f1.data.toList = [40] then p.1 + 1 else if t.f1.data.toList = [41] then p.1 - 1 else p.1
    (n, max p.2 n)
def nestL (l : List TokT) : Int := (l.foldl nestStep (0, 0)).2
def zTm : Tm := ⟨0, noName, 0, []⟩
/-- parse.Toks: the term and the error's number. -/
def toksR (l : List TokT) : Tm × Int :=
  if l.all rightT = false then (zTm, 2)
  else if 200 < nestL l then (zTm, 1)
  else match parseL l with
    | none => (zTm, 2)
    | some (t, s) => if s ≠ [] then (zTm, 2) else if 200 < depthT t ∨ 10000 < sizeT t then (zTm, 1) else (t, 0)
def parseR (s : List UInt8) : Tm × Int := if (lexR s).2 ≠ 0 then (zTm, (lexR s).2) else toksR (lexR s).1
end Go.Proofs.YtchekgnacodolaaGreatDoor.X
/- Decimal digits, there and back: a number's digits are told as it. -/
namespace Go.Proofs.YtchekgnacodolaaGreatDoor.X
open Go.RowKit Go.Proofs.YtchekgnacodolaaGreatDoorW.PrintWords
set_option linter.unusedSimpArgs false
set_option linter.unusedVariables false

/-! ### numbers -/
def valD (acc : Nat) : List UInt8 → Nat
  | [] => acc
  | c :: r => valD (acc * 10 + (c.toNat - 48)) r
theorem valD_snoc (l : List UInt8) : ∀ (acc : Nat) (c : UInt8), valD acc (l ++ [c]) = valD acc l * 10 + (c.toNat - 48) := by
  induction l with
  | nil => intro acc c; rfl
  | cons b l ih => intro acc c; exact ih _ c
theorem valD_le (l : List UInt8) : ∀ acc, acc ≤ valD acc l := by
  induction l with
  | nil => intro acc; exact Nat.le_refl _
  | cons b l ih => intro acc; exact Nat.le_trans (by omega) (ih _)
theorem dec_val (n : Nat) : valD 0 (Lib.decDigits n) = n := by
  induction n using Nat.strongRecOn with
  | ind n ih =>
    rw [Lib.decDigits]
    split
    · rename_i h
      show (0 * 10 + ((UInt8.ofNat (48 + n)).toNat - 48)) = n
      rw [UInt8.toNat_ofNat']; omega
    · rename_i h
      rw [valD_snoc, ih (n / 10) (by omega), UInt8.toNat_ofNat']; omega
theorem dec_F (v : Nat) (h : v < 10000000000) : Lib.decDigits v = decF 10 v := (decF_eq 10 v (by omega) (by omega)).symm
theorem decF_len : ∀ k n, (decF k n).length ≤ k
  | 0, _ => by simp [decF]
  | k + 1, n => by
    unfold decF
    split
    · simp
    · have := decF_len k (n / 10)
      simp; omega
theorem uintM_ok (M : Nat) (hM : M ≤ 4294967295) : ∀ (l : List UInt8) (acc : Nat), l.all isDig = true → valD acc l ≤ M → Lib.parseUintM M acc l = .ok (valD acc l)
  | [], _, _, _ => rfl
  | c :: l, acc, h, hv => by
    simp only [List.all_cons, Bool.and_eq_true] at h
    have hc : 48 ≤ c.toNat ∧ c.toNat ≤ 57 := by simpa [isDig] using h.1
    have hle := valD_le l (acc * 10 + (c.toNat - 48))
    have hv' : valD (acc * 10 + (c.toNat - 48)) l ≤ M := hv
    rw [Lib.parseUintM, if_pos hc, if_neg (by omega), if_neg (by omega), uintM_ok M hM l _ h.2 hv']; rfl
theorem parse_dec (v : Nat) (h : v < 2147483648) : Lib.parseIntB 32 (Lib.decDigits v) = .ok (v : Int) := by
  have hF := dec_F v (by omega)
  have hd : (Lib.decDigits v).all isDig = true := by rw [hF]; exact decF_dig _ _
  have hne : Lib.decDigits v ≠ [] := by rw [hF]; exact decF_ne _ _
  have hv := dec_val v
  cases hl : Lib.decDigits v with
  | nil => exact absurd hl hne
  | cons c r =>
    rw [hl] at hd hv
    have hd' := hd
    simp only [List.all_cons, Bool.and_eq_true] at hd'
    have hc : 48 ≤ c.toNat ∧ c.toNat ≤ 57 := by simpa [isDig] using hd'.1
    unfold Lib.parseIntB
    simp only
    rw [if_neg (by omega)]
    unfold Lib.parseUintB
    rw [if_neg (by simp), uintM_ok _ (by decide) _ _ hd (by rw [hv]; exact Nat.le_trans (Nat.le_of_lt h) (by decide)), hv]
    have h31 : (2 : Nat) ^ (32 - 1) = 2147483648 := by decide
    simp only [h31]
    rw [if_neg (by omega), if_neg (by omega), if_neg (by omega)]
theorem num_dec (v : Nat) (h : v < 2147483648) : numOf (B (Lib.decDigits v)) = ((v : Int), true) := by
  unfold numOf
  rw [B_list, parse_dec v h]
  have : itoaF (v : Int) = Lib.decDigits v := by
    unfold itoaF
    rw [if_neg (by omega), decF_eq 20 _ (by omega) (by omega)]; rfl
  simp [this]
theorem num_iff (d : List UInt8) : ((numOf (B d)).2 = true ∧ 0 ≤ (numOf (B d)).1) ↔ ∃ v : Nat, v < 2147483648 ∧ d = Lib.decDigits v := by
  constructor
  · rintro ⟨h, h0⟩
    unfold numOf at h h0
    cases hp : Lib.parseIntB 32 (B d).data.toList with
    | ok v =>
      rw [hp] at h h0
      simp only at h h0
      have e : itoaF v = d := by simpa [B_list] using h
      have hb := Lib.parseIntB_bounds hp
      have h31 : ((2 : Nat) ^ (32 - 1) : Nat) = 2147483648 := by decide
      rw [h31] at hb
      unfold itoaF at e
      rw [if_neg (by omega), decF_eq 20 _ (by omega) (by omega)] at e
      exact ⟨v.toNat, by omega, e.symm⟩
    | _ => rw [hp] at h; cases h
  · rintro ⟨v, h, rfl⟩
    rw [num_dec v h]
    exact ⟨rfl, by simp⟩
def goodNum (l : List UInt8) : Bool := decide (1 ≤ l.length) && decide (l.length ≤ 10) && l.all isDig && decide (valD 0 l < 2147483648) && (Lib.decDigits (valD 0 l) == l)
theorem goodNum_iff (l : List UInt8) : goodNum l = true ↔ ∃ v : Nat, v < 2147483648 ∧ l = Lib.decDigits v := by
  constructor
  · intro h
    simp only [goodNum, Bool.and_eq_true, decide_eq_true_eq, beq_iff_eq] at h
    exact ⟨valD 0 l, h.1.2, h.2.symm⟩
  · rintro ⟨v, h, rfl⟩
    have hF := dec_F v (by omega)
    have h1 : (Lib.decDigits v).length ≤ 10 := by rw [hF]; exact decF_len _ _
    have h2 : 1 ≤ (Lib.decDigits v).length := by
      rw [hF]
      cases hc : decF 10 v with
      | nil => exact absurd hc (decF_ne _ _)
      | cons => simp
    have h3 : (Lib.decDigits v).all isDig = true := by rw [hF]; exact decF_dig _ _
    simp only [goodNum, Bool.and_eq_true, decide_eq_true_eq, beq_iff_eq, dec_val]
    exact ⟨⟨⟨⟨h2, h1⟩, h3⟩, h⟩, trivial⟩
/-- The code's number and the document's: of a text that is one of no sign. -/
theorem num_good (d : List UInt8) : ((numOf (B d)).2 && decide (0 ≤ (numOf (B d)).1)) = goodNum d := by
  rw [Bool.eq_iff_iff, Bool.and_eq_true, decide_eq_true_eq, num_iff, goodNum_iff]
theorem num_val {d : List UInt8} (h : goodNum d = true) : (numOf (B d)).1 = (valD 0 d : Int) := by
  obtain ⟨v, hv, rfl⟩ := (goodNum_iff d).1 h
  rw [num_dec v hv, dec_val]

end Go.Proofs.YtchekgnacodolaaGreatDoor.X
/- chancel/show in plain words, and that what is shown of a right term is read as it. -/
namespace Go.Proofs.YtchekgnacodolaaGreatDoor.X
set_option linter.unusedSimpArgs false
set_option linter.unusedVariables false

/-! ### right terms -/
def wordB (nm : ByteArray) : Bool := nameL nm.data.toList && !isKey nm
def kidsOf : Int → Int
  | 1 => 0 | 2 => 0 | 3 => 1 | 4 => 2 | 5 => 2 | 6 => 3 | 7 => 2 | 8 => 1 | 9 => 2 | 10 => 1 | 11 => 2 | 12 => 2 | 13 => 2
  | _ => -1
def binderK (k : Int) : Bool := k == 3 || (k == 5 || k == 9)
def nodeB (k : Int) (nm : ByteArray) (n : Int) (c : Int) : Bool :=
  decide (1 ≤ k) && decide (k < 14) && decide (c = kidsOf k) && decide (0 ≤ n) && decide (n < 2147483648) && (decide (k = 1) || decide (n = 0)) &&
    (if binderK k = true ∨ k = 2 then wordB nm else if k = 12 then opWords.any (fun o => o.data.toList == nm.data.toList) else nm.data.toList == [])
mutual
def nodesT : Tm → Bool
  | ⟨k, nm, n, kids⟩ => nodeB k nm n kids.length && nodessT kids
def nodessT : List Tm → Bool
  | [] => true
  | t :: r => nodesT t && nodessT r
end
def rightTm (t : Tm) : Bool := decide (depthT t ≤ 200) && decide (sizeT t ≤ 10000) && nodesT t
theorem nodessT_mem : ∀ {l : List Tm}, nodessT l = true → ∀ t ∈ l, nodesT t = true
  | [], _, _, h => by cases h
  | x :: r, h, t, hm => by
    rw [nodessT, Bool.and_eq_true] at h
    rcases List.mem_cons.1 hm with rfl | h1
    · exact h.1
    · exact nodessT_mem h.2 t h1

/-! ### what is shown -/
def keyTok (w : ByteArray) : TokT := ⟨3, w, 0⟩
def markTok (m : ByteArray) : TokT := ⟨4, m, 0⟩
def nameTok (n : ByteArray) : TokT := ⟨1, n, 0⟩
def numTok (n : Int) : TokT := ⟨2, B (itoaF n), n⟩
def withinT (k : Int) (ts : List TokT) : List TokT := if k = 1 ∨ k = 2 then ts else markTok mOpen :: ts ++ [markTok mClose]
def layT (k : Int) (nm : ByteArray) (n : Int) (w : List (List TokT)) : List TokT :=
  let w0 := w.getD 0 []; let w1 := w.getD 1 []; let w2 := w.getD 2 []
  if k = 1 then [numTok n]
  else if k = 2 then [nameTok nm]
  else if k = 3 then keyTok kFun :: nameTok nm :: markTok mArrow :: w0
  else if k = 4 then w0 ++ w1
  else if k = 5 then keyTok kLet :: nameTok nm :: markTok mEq :: (w0 ++ keyTok kIn :: w1)
  else if k = 6 then keyTok kIf :: (w0 ++ keyTok kThen :: (w1 ++ keyTok kElse :: w2))
  else if k = 7 then keyTok kWhile :: (w0 ++ keyTok kDo :: w1)
  else if k = 8 then keyTok kRaise :: w0
  else if k = 9 then keyTok kTry :: (w0 ++ keyTok kWith :: nameTok nm :: markTok mArrow :: w1)
  else if k = 10 then markTok mGet :: w0
  else if k = 11 then w0 ++ markTok mSet :: w1
  else if k = 12 then w0 ++ markTok nm :: w1
  else w0 ++ markTok mSeq :: w1
mutual
def toksT : Tm → List TokT
  | ⟨k, nm, n, kids⟩ => layT k nm n (withinsT kids)
def withinsT : List Tm → List (List TokT)
  | [] => []
  | t :: r => withinT t.f0 (toksT t) :: withinsT r
end
/-- within: the tokens of a term within another one. -/
def inT (t : Tm) : List TokT := withinT t.f0 (toksT t)
theorem withinsT_map : ∀ l : List Tm, withinsT l = l.map inT
  | [] => rfl
  | t :: r => by rw [withinsT, withinsT_map r]; rfl

/-! ### reading what is shown -/
/-- With enough rounds. -/
def Ev (f : Nat → PR) (r : Option (Tm × List TokT)) : Prop := ∃ K, ∀ k, K ≤ k → f k = some r
theorem Ev.step {m : Mode} {s : List TokT} {r : Option (Tm × List TokT)} (h : Ev (fun k => run (k + 1) m s) r) : Ev (fun k => run k m s) r := by
  obtain ⟨K, h⟩ := h
  refine ⟨K + 1, fun k hk => ?_⟩
  obtain ⟨j, rfl⟩ : ∃ j, k = j + 1 := ⟨k - 1, by omega⟩
  exact h j (by omega)
theorem Ev.now (r : Option (Tm × List TokT)) : Ev (fun _ => some r) r := ⟨0, fun _ _ => rfl⟩
theorem Ev.then_ {f : Nat → PR} {g : Nat → Tm → List TokT → PR} {t : Tm} {s : List TokT} {r : Option (Tm × List TokT)} (h : Ev f (some (t, s))) (hg : Ev (fun k => g k t s) r) : Ev (fun k => (f k).then_ (g k)) r := by
  obtain ⟨K, h⟩ := h
  obtain ⟨K', h'⟩ := hg
  refine ⟨max K K', fun k hk => ?_⟩
  simp only [h k (by omega)]
  exact h' k (by omega)
theorem Ev.fail {f : Nat → PR} {g : Nat → Tm → List TokT → PR} (h : Ev f none) : Ev (fun k => (f k).then_ (g k)) none := by
  obtain ⟨K, h⟩ := h
  refine ⟨K, fun k hk => ?_⟩
  simp only [h k hk]; rfl
theorem Ev.key {f : Nat → PR} {g : Nat → Tm → List TokT → PR} {m : ByteArray} {t : Tm} {s : List TokT} {r : Option (Tm × List TokT)} (h : Ev f (some (t, s))) (hm : isL s m = true) (hg : Ev (fun k => g k t s.tail) r) : Ev (fun k => (f k).key m (g k)) r :=
  h.then_ (by simp only [if_pos hm]; exact hg)
theorem Ev.unkey {f : Nat → PR} {g : Nat → Tm → List TokT → PR} {m : ByteArray} {t : Tm} {s : List TokT} (h : Ev f (some (t, s))) (hm : isL s m = false) : Ev (fun k => (f k).key m (g k)) none :=
  h.then_ (by simp only [hm]; exact Ev.now _)
theorem Ev.name {g : Nat → ByteArray → List TokT → PR} {m : ByteArray} {s : List TokT} {nm : ByteArray} {q : List TokT} {r : Option (Tm × List TokT)} (hb : boundL s m = some (nm, q)) (hg : Ev (fun k => g k nm q) r) : Ev (fun k => PR.name (boundL s m) (g k)) r := by
  rw [hb]; exact hg
theorem Ev.pos {c : Prop} [Decidable c] {f g : Nat → PR} {r : Option (Tm × List TokT)} (hc : c) (h : Ev f r) : Ev (fun k => if c then f k else g k) r := by simp only [if_pos hc]; exact h
theorem Ev.neg {c : Prop} [Decidable c] {f g : Nat → PR} {r : Option (Tm × List TokT)} (hc : ¬ c) (h : Ev g r) : Ev (fun k => if c then f k else g k) r := by simp only [if_neg hc]; exact h
theorem Ev.parse {s : List TokT} {r : Option (Tm × List TokT)} (h : Ev (fun k => run k .all s) r) : parseL s = r := by
  obtain ⟨K, h⟩ := h
  exact parseL_of (h K (Nat.le_refl _))
theorem Ev.of_parse (s : List TokT) : Ev (fun k => run k .all s) (parseL s) := ⟨8 * s.length + 5, fun k hk => run_le (parseL_run s) hk⟩

theorem isL_cons (x : TokT) (r : List TokT) (m : ByteArray) : isL (x :: r) m = (decide (3 ≤ x.f0) && (x.f1.data.toList == m.data.toList)) := rfl
theorem isL_key (w : ByteArray) (r : List TokT) (m : ByteArray) : isL (keyTok w :: r) m = (w.data.toList == m.data.toList) := by simp [isL_cons, keyTok]
theorem isL_mark (w : ByteArray) (r : List TokT) (m : ByteArray) : isL (markTok w :: r) m = (w.data.toList == m.data.toList) := by simp [isL_cons, markTok]
theorem isL_low {x : TokT} (h : x.f0 = 1 ∨ x.f0 = 2) (r : List TokT) (m : ByteArray) : isL (x :: r) m = false := by
  rw [isL_cons, decide_eq_false (by omega), Bool.false_and]
/-- Behind a term stands what no part begins with, and no operation. -/
structure Stops (s : List TokT) : Prop where
  b : beginsL s = false
  set : isL s mSet = false
  ops : opWords.find? (isL s) = none
/-- A part's first token. -/
inductive HeadT : List TokT → Prop
  | low (x : TokT) (r : List TokT) (h : x.f0 = 1 ∨ x.f0 = 2) : HeadT (x :: r)
  | mark (r : List TokT) : HeadT (markTok mOpen :: r)
  | get (r : List TokT) : HeadT (markTok mGet :: r)
theorem HeadT.append {w : List TokT} (h : HeadT w) (s : List TokT) : HeadT (w ++ s) := by
  cases h with
  | low x r h => exact .low x (r ++ s) h
  | mark r => exact .mark (r ++ s)
  | get r => exact .get (r ++ s)
theorem HeadT.begins {w : List TokT} (h : HeadT w) : beginsL w = true := by
  cases h with
  | low x r h =>
    have : (peekL (x :: r)).f0 = x.f0 := rfl
    rcases h with h | h <;> simp [beginsL, this, h]
  | mark r => simp [beginsL, isL_mark, mOpen]
  | get r => simp [beginsL, isL_mark, mGet]
def keyHeads : List ByteArray := [kFun, kLet, kIf, kWhile, kRaise, kTry]
theorem HeadT.nokey {w : List TokT} (h : HeadT w) {m : ByteArray} (hm : m ∈ keyHeads) : ¬ isL w m = true := by
  have key : keyHeads.all (fun m => !(mOpen.data.toList == m.data.toList) && !(mGet.data.toList == m.data.toList)) = true := by decide +kernel
  have := List.all_eq_true.1 key m hm
  simp only [Bool.and_eq_true, Bool.not_eq_true'] at this
  cases h with
  | low x r h => rw [isL_low h]; decide
  | mark r => rw [isL_mark, this.1]; decide
  | get r => rw [isL_mark, this.2]; decide
abbrev Reads_ (m : Mode) (s : List TokT) (r : Option (Tm × List TokT)) : Prop := Ev (fun k => run k m s) r
theorem parts_of {w : List TokT} {t : Tm} {s : List TokT} (h : Reads_ .part w (some (t, s))) (hs : beginsL s = false) : Reads_ .parts w (some (t, s)) :=
  Ev.step (Ev.then_ h (Ev.step (Ev.neg (by rw [hs]; decide) (Ev.now _))))
theorem plain_of {w : List TokT} {t : Tm} {s : List TokT} (h : Reads_ .parts w (some (t, s))) (hs : Stops s) : Reads_ .plain w (some (t, s)) :=
  Ev.step (Ev.then_ h (Ev.neg (by rw [hs.set]; decide) (by rw [hs.ops]; exact Ev.now _)))
theorem one_of {w : List TokT} {r : Option (Tm × List TokT)} (hw : HeadT w) (h : Reads_ .plain w r) : Reads_ .one w r :=
  Ev.step (Ev.neg (hw.nokey (by simp [keyHeads])) (Ev.neg (hw.nokey (by simp [keyHeads])) (Ev.neg (hw.nokey (by simp [keyHeads])) (Ev.neg (hw.nokey (by simp [keyHeads])) (Ev.neg (hw.nokey (by simp [keyHeads])) (Ev.neg (hw.nokey (by simp [keyHeads])) h))))))
theorem all_of {w : List TokT} {t : Tm} {s : List TokT} (h : Reads_ .one w (some (t, s))) (hs : isL s mSeq = false) : Reads_ .all w (some (t, s)) :=
  Ev.step (Ev.then_ h (Ev.neg (by rw [hs]; decide) (Ev.now _)))
theorem one_part {w : List TokT} {t : Tm} {s : List TokT} (hw : HeadT w) (h : Reads_ .part w (some (t, s))) (hs : Stops s) : Reads_ .one w (some (t, s)) :=
  one_of hw (plain_of (parts_of h hs.b) hs)
theorem all_part {w : List TokT} {t : Tm} {s : List TokT} (hw : HeadT w) (h : Reads_ .part w (some (t, s))) (hs : Stops s) (hq : isL s mSeq = false) : Reads_ .all w (some (t, s)) :=
  all_of (one_part hw h hs) hq

theorem begins_key (w : ByteArray) (r : List TokT) (h1 : (w.data.toList == [40]) = false) (h2 : (w.data.toList == [33]) = false) : beginsL (keyTok w :: r) = false := by
  unfold beginsL
  rw [isL_key, isL_key, show (⟨#[40]⟩ : ByteArray).data.toList = [40] from rfl, show (⟨#[33]⟩ : ByteArray).data.toList = [33] from rfl, h1, h2]
  simp [peekL, keyTok]
theorem begins_mark (w : ByteArray) (r : List TokT) (h1 : (w.data.toList == [40]) = false) (h2 : (w.data.toList == [33]) = false) : beginsL (markTok w :: r) = false := by
  unfold beginsL
  rw [isL_mark, isL_mark, show (⟨#[40]⟩ : ByteArray).data.toList = [40] from rfl, show (⟨#[33]⟩ : ByteArray).data.toList = [33] from rfl, h1, h2]
  simp [peekL, markTok]
theorem find_none {s : List TokT} (h : ∀ o ∈ opWords, isL s o = false) : opWords.find? (isL s) = none := List.find?_eq_none.2 fun o ho => by rw [h o ho]; decide
theorem Stops.nil : Stops [] := ⟨beginsL_nil, isL_nil _, find_none fun o _ => isL_nil o⟩
theorem stops_of_list (ws : List ByteArray) (h : ws.all (fun w => !(w.data.toList == [40]) && !(w.data.toList == [33]) && !(w.data.toList == mSet.data.toList) && opWords.all fun o => !(w.data.toList == o.data.toList)) = true) (w : ByteArray) (hw : w ∈ ws) :
    (∀ r, Stops (keyTok w :: r)) ∧ ∀ r, Stops (markTok w :: r) := by
  have := List.all_eq_true.1 h w hw
  simp only [Bool.and_eq_true, Bool.not_eq_true', List.all_eq_true] at this
  obtain ⟨⟨⟨h1, h2⟩, h3⟩, h4⟩ := this
  exact ⟨fun r => ⟨begins_key w r h1 h2, by rw [isL_key, h3], find_none fun o ho => by rw [isL_key, h4 o ho]⟩, fun r => ⟨begins_mark w r h1 h2, by rw [isL_mark, h3], find_none fun o ho => by rw [isL_mark, h4 o ho]⟩⟩
def stopWords : List ByteArray := [kIn, kThen, kElse, kDo, kWith, mClose, mSeq]
theorem stops_key {w : ByteArray} (hw : w ∈ stopWords) (r : List TokT) : Stops (keyTok w :: r) := (stops_of_list stopWords (by decide +kernel) w hw).1 r
theorem stops_mark {w : ByteArray} (hw : w ∈ stopWords) (r : List TokT) : Stops (markTok w :: r) := (stops_of_list stopWords (by decide +kernel) w hw).2 r

theorem part_low {x : TokT} (r : List TokT) (h : x.f0 = 1 ∨ x.f0 = 2) : Reads_ .part (x :: r) (some (if x.f0 = 1 then tm 2 x.f1 [] else ⟨1, noName, x.f2, []⟩, r)) := by
  refine Ev.step (Ev.neg (by rw [isL_low h]; decide) (Ev.neg (by rw [isL_low h]; decide) ?_))
  rcases h with h | h
  · rw [if_pos h]; exact Ev.pos h (Ev.now _)
  · have h1 : ¬ x.f0 = 1 := by rw [h]; decide
    rw [if_neg h1]; exact Ev.neg h1 (Ev.pos h (Ev.now _))
theorem part_paren {w : List TokT} {t : Tm} {s : List TokT} (h : Reads_ .all w (some (t, s))) (hs : isL s mClose = true) : Reads_ .part (markTok mOpen :: w) (some (t, s.tail)) :=
  Ev.step (Ev.neg (by rw [isL_mark]; decide) (Ev.pos (by rw [isL_mark]; decide) (Ev.key h hs (Ev.now _))))
theorem part_get {w : List TokT} {t : Tm} {s : List TokT} (h : Reads_ .part w (some (t, s))) : Reads_ .part (markTok mGet :: w) (some (tm 10 noName [t], s)) :=
  Ev.step (Ev.pos (by rw [isL_mark]; decide) (Ev.then_ h (Ev.now _)))
theorem bound_of (nm m : ByteArray) (r : List TokT) : boundL (nameTok nm :: markTok m :: r) m = some (nm, r) := by
  unfold boundL
  rw [if_pos (show (peekL (nameTok nm :: markTok m :: r)).f0 = 1 from rfl), if_pos (by rw [List.tail_cons, isL_mark]; simp)]; rfl

/-- A term as it is shown is read as it. -/
structure Back (t : Tm) : Prop where
  part : ∀ s, Reads_ .part (inT t ++ s) (some (t, s))
  head : HeadT (inT t)
  all : ∀ s, Stops s → isL s mSeq = false → Reads_ .all (toksT t ++ s) (some (t, s))
theorem kids_cases {l : List Tm} {k : Int} (h : (l.length : Int) = kidsOf k) (hk : 1 ≤ k ∧ k < 14) :
    (k = 1 ∧ l = []) ∨ (k = 2 ∧ l = []) ∨ ((k = 3 ∨ k = 8 ∨ k = 10) ∧ ∃ a, l = [a]) ∨ ((k = 4 ∨ k = 5 ∨ k = 7 ∨ k = 9 ∨ k = 11 ∨ k = 12 ∨ k = 13) ∧ ∃ a b, l = [a, b]) ∨ (k = 6 ∧ ∃ a b c, l = [a, b, c]) := by
  have h0 : ∀ (l : List Tm), (l.length : Int) = 0 → l = [] := fun l h => List.length_eq_zero_iff.1 (by omega)
  have h1 : ∀ (l : List Tm), (l.length : Int) = 1 → ∃ a, l = [a] := fun l h => List.length_eq_one_iff.1 (by omega)
  have h2 : ∀ (l : List Tm), (l.length : Int) = 2 → ∃ a b, l = [a, b] := fun l h => by
    match l, h with
    | [a, b], _ => exact ⟨a, b, rfl⟩
    | [], h => simp at h
    | [_], h => simp at h
    | _ :: _ :: _ :: _, h => simp only [List.length_cons] at h; omega
  have h3 : ∀ (l : List Tm), (l.length : Int) = 3 → ∃ a b c, l = [a, b, c] := fun l h => by
    match l, h with
    | [a, b, c], _ => exact ⟨a, b, c, rfl⟩
    | [], h => simp at h
    | [_], h => simp at h
    | [_, _], h => simp at h
    | _ :: _ :: _ :: _ :: _, h => simp only [List.length_cons] at h; omega
  have hc : k = 1 ∨ k = 2 ∨ k = 3 ∨ k = 4 ∨ k = 5 ∨ k = 6 ∨ k = 7 ∨ k = 8 ∨ k = 9 ∨ k = 10 ∨ k = 11 ∨ k = 12 ∨ k = 13 := by omega
  rcases hc with rfl | rfl | rfl | rfl | rfl | rfl | rfl | rfl | rfl | rfl | rfl | rfl | rfl <;> simp only [kidsOf] at h
  · exact .inl ⟨rfl, h0 l h⟩
  · exact .inr (.inl ⟨rfl, h0 l h⟩)
  · exact .inr (.inr (.inl ⟨.inl rfl, h1 l h⟩))
  · exact .inr (.inr (.inr (.inl ⟨.inl rfl, h2 l h⟩)))
  · exact .inr (.inr (.inr (.inl ⟨.inr (.inl rfl), h2 l h⟩)))
  · exact .inr (.inr (.inr (.inr ⟨rfl, h3 l h⟩)))
  · exact .inr (.inr (.inr (.inl ⟨.inr (.inr (.inl rfl)), h2 l h⟩)))
  · exact .inr (.inr (.inl ⟨.inr (.inl rfl), h1 l h⟩))
  · exact .inr (.inr (.inr (.inl ⟨.inr (.inr (.inr (.inl rfl))), h2 l h⟩)))
  · exact .inr (.inr (.inl ⟨.inr (.inr rfl), h1 l h⟩))
  · exact .inr (.inr (.inr (.inl ⟨.inr (.inr (.inr (.inr (.inl rfl)))), h2 l h⟩)))
  · exact .inr (.inr (.inr (.inl ⟨.inr (.inr (.inr (.inr (.inr (.inl rfl))))), h2 l h⟩)))
  · exact .inr (.inr (.inr (.inl ⟨.inr (.inr (.inr (.inr (.inr (.inr rfl))))), h2 l h⟩)))
structure NodeR (k : Int) (nm : ByteArray) (n : Int) (c : Int) : Prop where
  k1 : 1 ≤ k
  k2 : k < 14
  kids : c = kidsOf k
  n0 : 0 ≤ n
  n1 : n < 2147483648
  nz : k = 1 ∨ n = 0
  nm : if binderK k = true ∨ k = 2 then wordB nm = true else if k = 12 then nm ∈ opWords else nm = noName
theorem ba_eq {a b : ByteArray} (h : a.data.toList = b.data.toList) : a = b := by rw [← B_of a, ← B_of b, h]
theorem nodeB_iff (k : Int) (nm : ByteArray) (n : Int) (c : Int) : nodeB k nm n c = true ↔ NodeR k nm n c := by
  unfold nodeB
  simp only [Bool.and_eq_true, Bool.or_eq_true, decide_eq_true_eq]
  have hn : (if binderK k = true ∨ k = 2 then wordB nm else if k = 12 then opWords.any (fun o => o.data.toList == nm.data.toList) else nm.data.toList == []) = true ↔ (if binderK k = true ∨ k = 2 then wordB nm = true else if k = 12 then nm ∈ opWords else nm = noName) := by
    split
    · exact Iff.rfl
    · split
      · rw [List.any_eq_true]
        constructor
        · rintro ⟨o, ho, e⟩; rw [← ba_eq (eq_of_beq e)]; exact ho
        · exact fun h => ⟨nm, h, beq_self_eq_true _⟩
      · rw [beq_iff_eq]
        exact ⟨fun h => ba_eq h, fun h => by rw [h]⟩
  rw [hn]
  exact ⟨fun ⟨⟨⟨⟨⟨⟨a, b⟩, c⟩, d⟩, e⟩, f⟩, g⟩ => ⟨a, b, c, d, e, f, g⟩, fun ⟨a, b, c, d, e, f, g⟩ => ⟨⟨⟨⟨⟨⟨a, b⟩, c⟩, d⟩, e⟩, f⟩, g⟩⟩
theorem ops_find {o : ByteArray} (h : o ∈ opWords) (r : List TokT) : opWords.find? (isL (markTok o :: r)) = some o ∧ isL (markTok o :: r) mSet = false ∧ beginsL (markTok o :: r) = false := by
  have key : opWords.all (fun o => (opWords.find? (fun m => o.data.toList == m.data.toList)).map (fun m => m.data.toList) == some o.data.toList && !(o.data.toList == mSet.data.toList) && !(o.data.toList == [40]) && !(o.data.toList == [33])) = true := by decide +kernel
  have := List.all_eq_true.1 key o h
  simp only [Bool.and_eq_true, Bool.not_eq_true', beq_iff_eq] at this
  obtain ⟨⟨⟨h1, h2⟩, h3⟩, h4⟩ := this
  have hf : isL (markTok o :: r) = fun m => o.data.toList == m.data.toList := funext fun m => isL_mark o r m
  refine ⟨?_, by rw [isL_mark, h2], begins_mark o r h3 h4⟩
  rw [hf]
  rw [Option.map_eq_some_iff] at h1
  obtain ⟨m, hm, e⟩ := h1
  rw [hm, ba_eq e]
theorem back (t : Tm) : nodesT t = true → Back t := by
  induction t using Tm.ind with
  | h k nm n kids ih =>
    intro h
    rw [nodesT, Bool.and_eq_true] at h
    obtain ⟨h1, h2⟩ := h
    have hn := (nodeB_iff k nm n kids.length).1 h1
    have ihk : ∀ t ∈ kids, Back t := fun t ht => ih t ht (nodessT_mem h2 t ht)
    -- what holds for all: from 'all' and the head the rest
    have close : (∀ s, Stops s → isL s mSeq = false → Reads_ .all (toksT ⟨k, nm, n, kids⟩ ++ s) (some (⟨k, nm, n, kids⟩, s))) → ¬ (k = 1 ∨ k = 2) → Back ⟨k, nm, n, kids⟩ := by
      intro ha hk
      have e : inT ⟨k, nm, n, kids⟩ = markTok mOpen :: toksT ⟨k, nm, n, kids⟩ ++ [markTok mClose] := by
        unfold inT withinT
        rw [if_neg hk]
      refine ⟨fun s => ?_, by rw [e]; exact .mark _, ha⟩
      rw [e, List.append_assoc, List.cons_append]
      exact part_paren (ha ([markTok mClose] ++ s) (stops_mark (by simp [stopWords]) _) (by rw [List.singleton_append, isL_mark]; decide)) (by rw [List.singleton_append, isL_mark]; decide)
    have arrow : ∀ (t : Tm) (ht : t ∈ kids) (s : List TokT), Stops s → isL s mSeq = false → Reads_ .all (inT t ++ s) (some (t, s)) := fun t ht s h h' => all_part ((ihk t ht).head.append s) ((ihk t ht).part s) h h'
    rcases kids_cases hn.kids ⟨hn.k1, hn.k2⟩ with ⟨rfl, rfl⟩ | ⟨rfl, rfl⟩ | ⟨hk, a, rfl⟩ | ⟨hk, a, b, rfl⟩ | ⟨rfl, a, b, c, rfl⟩
    · -- a number
      have hnm : nm = noName := by have := hn.nm; rw [if_neg (by decide), if_neg (by decide)] at this; exact this
      subst hnm
      have hp : ∀ s, Reads_ .part (inT ⟨1, noName, n, []⟩ ++ s) (some (⟨1, noName, n, []⟩, s)) := fun s => part_low (x := numTok n) s (.inr rfl)
      exact ⟨hp, .low (numTok n) [] (.inr rfl), fun s hs hq => all_part (.low (numTok n) s (.inr rfl)) (hp s) hs hq⟩
    · -- a name
      have hz : n = 0 := by rcases hn.nz with h | h; exact absurd h (by decide); exact h
      subst hz
      have hp : ∀ s, Reads_ .part (inT ⟨2, nm, 0, []⟩ ++ s) (some (⟨2, nm, 0, []⟩, s)) := fun s => part_low (x := nameTok nm) s (.inl rfl)
      exact ⟨hp, .low (nameTok nm) [] (.inl rfl), fun s hs hq => all_part (.low (nameTok nm) s (.inl rfl)) (hp s) hs hq⟩
    · have hz : n = 0 := by rcases hn.nz with h | h; (exfalso; omega); exact h
      subst hz
      have ha : a ∈ [a] := by simp
      rcases hk with rfl | rfl | rfl
      · refine close (fun s hs hq => ?_) (by decide)
        show Reads_ .all (keyTok kFun :: nameTok nm :: markTok mArrow :: inT a ++ s) _
        exact all_of (Ev.step (Ev.pos (by rw [List.cons_append, isL_key]; decide) (Ev.name (bound_of nm mArrow _) (Ev.then_ (arrow a ha s hs hq) (Ev.now _))))) hq
      · have hnm : nm = noName := by have := hn.nm; rw [if_neg (by decide), if_neg (by decide)] at this; exact this
        subst hnm
        refine close (fun s hs hq => ?_) (by decide)
        show Reads_ .all (keyTok kRaise :: inT a ++ s) _
        refine all_of (Ev.step ?_) hq
        rw [List.cons_append]
        refine Ev.neg (by rw [isL_key]; decide) (Ev.neg (by rw [isL_key]; decide) (Ev.neg (by rw [isL_key]; decide) (Ev.neg (by rw [isL_key]; decide) (Ev.pos (by rw [isL_key]; decide) ?_))))
        exact Ev.then_ (one_part ((ihk a ha).head.append s) ((ihk a ha).part s) hs) (Ev.now _)
      · have hnm : nm = noName := by have := hn.nm; rw [if_neg (by decide), if_neg (by decide)] at this; exact this
        subst hnm
        refine close (fun s hs hq => ?_) (by decide)
        show Reads_ .all (markTok mGet :: inT a ++ s) _
        rw [List.cons_append]
        exact all_part (.get _) (part_get ((ihk a ha).part s)) hs hq
    · have hz : n = 0 := by rcases hn.nz with h | h; (exfalso; omega); exact h
      subst hz
      have ha : a ∈ [a, b] := by simp
      have hb : b ∈ [a, b] := by simp
      have noname : ¬ (k = 5 ∨ k = 9 ∨ k = 12) → nm = noName := by
        intro hne
        have := hn.nm
        rw [if_neg (by simp [binderK]; omega), if_neg (by omega)] at this; exact this
      rcases hk with rfl | rfl | rfl | rfl | rfl | rfl | rfl
      · obtain rfl := noname (by decide)
        refine close (fun s hs hq => ?_) (by decide)
        show Reads_ .all ((inT a ++ inT b) ++ s) _
        rw [List.append_assoc]
        refine all_of (one_of ((ihk a ha).head.append _) (plain_of (Ev.step (Ev.then_ ((ihk a ha).part _) (Ev.step (Ev.pos ((ihk b hb).head.append s).begins (Ev.then_ ((ihk b hb).part s) (Ev.step (Ev.neg (by rw [hs.b]; decide) (Ev.now _)))))))) hs)) hq
      · refine close (fun s hs hq => ?_) (by decide)
        show Reads_ .all (keyTok kLet :: nameTok nm :: markTok mEq :: (inT a ++ keyTok kIn :: inT b) ++ s) _
        rw [List.cons_append, List.cons_append, List.cons_append, List.append_assoc, List.cons_append]
        refine all_of (Ev.step (Ev.neg (by rw [isL_key]; decide) (Ev.pos (by rw [isL_key]; decide) (Ev.name (bound_of nm mEq _) (Ev.key (arrow a ha _ (stops_key (by simp [stopWords]) _) (by rw [isL_key]; decide)) (by rw [isL_key]; decide) (Ev.then_ (arrow b hb s hs hq) (Ev.now _))))))) hq
      · obtain rfl := noname (by decide)
        refine close (fun s hs hq => ?_) (by decide)
        show Reads_ .all (keyTok kWhile :: (inT a ++ keyTok kDo :: inT b) ++ s) _
        rw [List.cons_append, List.append_assoc, List.cons_append]
        refine all_of (Ev.step (Ev.neg (by rw [isL_key]; decide) (Ev.neg (by rw [isL_key]; decide) (Ev.neg (by rw [isL_key]; decide) (Ev.pos (by rw [isL_key]; decide) (Ev.key (arrow a ha _ (stops_key (by simp [stopWords]) _) (by rw [isL_key]; decide)) (by rw [isL_key]; decide) (Ev.then_ (arrow b hb s hs hq) (Ev.now _)))))))) hq
      · refine close (fun s hs hq => ?_) (by decide)
        show Reads_ .all (keyTok kTry :: (inT a ++ keyTok kWith :: nameTok nm :: markTok mArrow :: inT b) ++ s) _
        rw [List.cons_append, List.append_assoc, List.cons_append, List.cons_append, List.cons_append]
        refine all_of (Ev.step (Ev.neg (by rw [isL_key]; decide) (Ev.neg (by rw [isL_key]; decide) (Ev.neg (by rw [isL_key]; decide) (Ev.neg (by rw [isL_key]; decide) (Ev.neg (by rw [isL_key]; decide) (Ev.pos (by rw [isL_key]; decide) (Ev.key (arrow a ha _ (stops_key (by simp [stopWords]) _) (by rw [isL_key]; decide)) (by rw [isL_key]; decide) (Ev.name (bound_of nm mArrow _) (Ev.then_ (arrow b hb s hs hq) (Ev.now _))))))))))) hq
      · obtain rfl := noname (by decide)
        refine close (fun s hs hq => ?_) (by decide)
        show Reads_ .all ((inT a ++ markTok mSet :: inT b) ++ s) _
        rw [List.append_assoc, List.cons_append]
        refine all_of (one_of ((ihk a ha).head.append _) (Ev.step (Ev.then_ (parts_of ((ihk a ha).part _) (begins_mark _ _ (by decide) (by decide))) (Ev.pos (by rw [isL_mark]; decide) (Ev.then_ (one_part ((ihk b hb).head.append s) ((ihk b hb).part s) hs) (Ev.now _)))))) hq
      · have hop : nm ∈ opWords := by have := hn.nm; rw [if_neg (by decide), if_pos rfl] at this; exact this
        refine close (fun s hs hq => ?_) (by decide)
        show Reads_ .all ((inT a ++ markTok nm :: inT b) ++ s) _
        rw [List.append_assoc, List.cons_append]
        obtain ⟨o1, o2, o3⟩ := ops_find hop (inT b ++ s)
        refine all_of (one_of ((ihk a ha).head.append _) (Ev.step (Ev.then_ (parts_of ((ihk a ha).part _) o3) (Ev.neg (by rw [o2]; decide) ?_)))) hq
        rw [o1]
        exact Ev.then_ (parts_of ((ihk b hb).part s) hs.b) (Ev.now _)
      · obtain rfl := noname (by decide)
        refine close (fun s hs hq => ?_) (by decide)
        show Reads_ .all ((inT a ++ markTok mSeq :: inT b) ++ s) _
        rw [List.append_assoc, List.cons_append]
        exact Ev.step (Ev.then_ (one_part ((ihk a ha).head.append _) ((ihk a ha).part _) (stops_mark (by simp [stopWords]) _)) (Ev.pos (by rw [isL_mark]; decide) (Ev.then_ (arrow b hb s hs hq) (Ev.now _))))
    · have hz : n = 0 := by rcases hn.nz with h | h; (exfalso; omega); exact h
      subst hz
      have hnm : nm = noName := by have := hn.nm; rw [if_neg (by decide), if_neg (by decide)] at this; exact this
      subst hnm
      refine close (fun s hs hq => ?_) (by decide)
      show Reads_ .all (keyTok kIf :: (inT a ++ keyTok kThen :: (inT b ++ keyTok kElse :: inT c)) ++ s) _
      rw [List.cons_append, List.append_assoc, List.cons_append, List.append_assoc, List.cons_append]
      refine all_of (Ev.step (Ev.neg (by rw [isL_key]; decide) (Ev.neg (by rw [isL_key]; decide) (Ev.pos (by rw [isL_key]; decide) (Ev.key (arrow a (by simp) _ (stops_key (by simp [stopWords]) _) (by rw [isL_key]; decide)) (by rw [isL_key]; decide) (Ev.key (arrow b (by simp) _ (stops_key (by simp [stopWords]) _) (by rw [isL_key]; decide)) (by rw [isL_key]; decide) (Ev.then_ (arrow c (by simp) s hs hq) (Ev.now _)))))))) hq
end Go.Proofs.YtchekgnacodolaaGreatDoor.X
/- What is shown of a right term: its tokens are right, its parentheses are nested as it is, its text is bounded. -/
namespace Go.Proofs.YtchekgnacodolaaGreatDoor.X
set_option linter.unusedSimpArgs false
set_option linter.unusedVariables false

/-- Right terms, kind by kind. -/
theorem shown_ind {P : Tm → Prop} (num : ∀ n : Int, 0 ≤ n → n < 2147483648 → P ⟨1, noName, n, []⟩) (var : ∀ nm, wordB nm = true → P (tm 2 nm []))
    (fun_ : ∀ nm a, wordB nm = true → nodesT a = true → P a → P (tm 3 nm [a])) (app : ∀ a b, nodesT a = true → nodesT b = true → P a → P b → P (tm 4 noName [a, b]))
    (let_ : ∀ nm a b, wordB nm = true → nodesT a = true → nodesT b = true → P a → P b → P (tm 5 nm [a, b])) (if_ : ∀ a b c, nodesT a = true → nodesT b = true → nodesT c = true → P a → P b → P c → P (tm 6 noName [a, b, c]))
    (while_ : ∀ a b, nodesT a = true → nodesT b = true → P a → P b → P (tm 7 noName [a, b])) (raise : ∀ a, nodesT a = true → P a → P (tm 8 noName [a]))
    (try_ : ∀ nm a b, wordB nm = true → nodesT a = true → nodesT b = true → P a → P b → P (tm 9 nm [a, b])) (get : ∀ a, nodesT a = true → P a → P (tm 10 noName [a]))
    (set : ∀ a b, nodesT a = true → nodesT b = true → P a → P b → P (tm 11 noName [a, b])) (op : ∀ nm a b, nm ∈ opWords → nodesT a = true → nodesT b = true → P a → P b → P (tm 12 nm [a, b]))
    (seq : ∀ a b, nodesT a = true → nodesT b = true → P a → P b → P (tm 13 noName [a, b])) (t : Tm) : nodesT t = true → P t := by
  induction t using Tm.ind with
  | h k nm n kids ih =>
    intro h
    rw [nodesT, Bool.and_eq_true] at h
    obtain ⟨h1, h2⟩ := h
    have hn := (nodeB_iff k nm n kids.length).1 h1
    have nd : ∀ t ∈ kids, nodesT t = true := nodessT_mem h2
    have pd : ∀ t ∈ kids, P t := fun t ht => ih t ht (nd t ht)
    have hnm := hn.nm
    have hz : k ≠ 1 → n = 0 := fun h => by rcases hn.nz with h' | h'; exact absurd h' h; exact h'
    rcases kids_cases hn.kids ⟨hn.k1, hn.k2⟩ with ⟨rfl, rfl⟩ | ⟨rfl, rfl⟩ | ⟨hk, a, rfl⟩ | ⟨hk, a, b, rfl⟩ | ⟨rfl, a, b, c, rfl⟩
    · rw [if_neg (by decide), if_neg (by decide)] at hnm
      subst hnm
      exact num n hn.n0 hn.n1
    · obtain rfl := hz (by decide)
      rw [if_pos (by decide)] at hnm
      exact var nm hnm
    · have na := nd a (by simp)
      have pa := pd a (by simp)
      rcases hk with rfl | rfl | rfl
      · obtain rfl := hz (by decide)
        rw [if_pos (by decide)] at hnm
        exact fun_ nm a hnm na pa
      · obtain rfl := hz (by decide)
        rw [if_neg (by decide), if_neg (by decide)] at hnm
        subst hnm
        exact raise a na pa
      · obtain rfl := hz (by decide)
        rw [if_neg (by decide), if_neg (by decide)] at hnm
        subst hnm
        exact get a na pa
    · have na := nd a (by simp)
      have pa := pd a (by simp)
      have nb := nd b (by simp)
      have pb := pd b (by simp)
      rcases hk with rfl | rfl | rfl | rfl | rfl | rfl | rfl
      · obtain rfl := hz (by decide)
        rw [if_neg (by decide), if_neg (by decide)] at hnm
        subst hnm
        exact app a b na nb pa pb
      · obtain rfl := hz (by decide)
        rw [if_pos (by decide)] at hnm
        exact let_ nm a b hnm na nb pa pb
      · obtain rfl := hz (by decide)
        rw [if_neg (by decide), if_neg (by decide)] at hnm
        subst hnm
        exact while_ a b na nb pa pb
      · obtain rfl := hz (by decide)
        rw [if_pos (by decide)] at hnm
        exact try_ nm a b hnm na nb pa pb
      · obtain rfl := hz (by decide)
        rw [if_neg (by decide), if_neg (by decide)] at hnm
        subst hnm
        exact set a b na nb pa pb
      · obtain rfl := hz (by decide)
        rw [if_neg (by decide), if_pos rfl] at hnm
        exact op nm a b hnm na nb pa pb
      · obtain rfl := hz (by decide)
        rw [if_neg (by decide), if_neg (by decide)] at hnm
        subst hnm
        exact seq a b na nb pa pb
    · obtain rfl := hz (by decide)
      rw [if_neg (by decide), if_neg (by decide)] at hnm
      subst hnm
      exact if_ a b c (nd a (by simp)) (nd b (by simp)) (nd c (by simp)) (pd a (by simp)) (pd b (by simp)) (pd c (by simp))

/-! ### right tokens -/
theorem right_key {w : ByteArray} (h : w ∈ keyWords) : rightT (keyTok w) = true := by
  have hk : isKey w = true := (isKey_iff w).2 h
  have e : wordTok w.data.toList = ⟨3, w.data.toList, 0, w.data.toList.length, true⟩ := by unfold wordTok; rw [B_of, if_pos hk]
  unfold rightT keyTok
  simp only [e]; rfl
theorem right_name {w : ByteArray} (h : wordB w = true) : rightT (nameTok w) = true := by
  unfold wordB at h
  simp only [Bool.and_eq_true, Bool.not_eq_true'] at h
  have e : wordTok w.data.toList = ⟨1, w.data.toList, 0, w.data.toList.length, true⟩ := by unfold wordTok; rw [B_of, h.2, h.1]; rfl
  unfold rightT nameTok
  simp only [e]; rfl
theorem right_mark {w : ByteArray} (h : w ∈ markWords) : rightT (markTok w) = true := by
  have hself : markWords.all (fun m => markL m.data.toList == some m.data.toList) = true := by decide +kernel
  have := List.all_eq_true.1 hself w h
  unfold rightT markTok
  simp only [this]; rfl
theorem itoaF_dec {n : Int} (h0 : 0 ≤ n) (h1 : n < 2147483648) : itoaF n = Lib.decDigits n.toNat := by
  unfold itoaF
  rw [if_neg (by omega), decF_eq 20 _ (by omega) (by omega)]
theorem right_num {n : Int} (h0 : 0 ≤ n) (h1 : n < 2147483648) : rightT (numTok n) = true := by
  unfold rightT numTok
  simp only
  rw [itoaF_dec h0 h1, num_dec n.toNat (by omega)]
  simp; omega
theorem name_right {t : TokT} (h : rightT t = true) (h1 : t.f0 = 1) : wordB t.f1 = true ∧ t = nameTok t.f1 := by
  obtain ⟨f0, f1, f2⟩ := t
  simp only at h1
  subst h1
  unfold rightT at h
  dsimp only at h
  rw [if_pos (show (1 : Int) = 1 ∨ (1 : Int) = 3 from .inl rfl)] at h
  simp only [Bool.and_eq_true, beq_iff_eq] at h
  obtain ⟨⟨h2, h3⟩, rfl⟩ := h
  refine ⟨?_, rfl⟩
  unfold wordTok at h2 h3
  rw [B_of] at h2 h3
  unfold wordB
  by_cases hk : isKey f1 = true
  · rw [if_pos hk] at h3; cases h3
  · rw [if_neg hk] at h2; simp only at h2; rw [h2]; simpa using hk
theorem num_right2 {t : TokT} (h : rightT t = true) (h1 : t.f0 = 2) : 0 ≤ t.f2 ∧ t.f2 < 2147483648 ∧ t = numTok t.f2 := by
  obtain ⟨f0, f1, f2⟩ := t
  simp only at h1
  subst h1
  unfold rightT at h
  dsimp only at h
  rw [if_neg (by decide), if_pos rfl] at h
  simp only [Bool.and_eq_true, beq_iff_eq, decide_eq_true_eq] at h
  obtain ⟨⟨h2, h3⟩, h4⟩ := h
  have e := B_of f1
  rw [← e] at h2 h3 h4
  obtain ⟨v, hv, hd⟩ := (num_iff f1.data.toList).1 ⟨h2, h3⟩
  rw [hd, num_dec v hv] at h4
  simp only at h4
  subst h4
  refine ⟨by simp, by simp; omega, ?_⟩
  unfold numTok
  simp only
  rw [itoaF_dec (by omega) (by omega), Int.toNat_natCast, ← hd, e]
theorem kw_mem : ∀ w ∈ [kFun, kLet, kIn, kIf, kThen, kElse, kWhile, kDo, kRaise, kTry, kWith], w ∈ keyWords := by
  intro w hw
  simp only [List.mem_cons, List.not_mem_nil, or_false] at hw
  rcases hw with rfl | rfl | rfl | rfl | rfl | rfl | rfl | rfl | rfl | rfl | rfl <;> simp [keyWords, kFun, kLet, kIn, kIf, kThen, kElse, kWhile, kDo, kRaise, kTry, kWith]
theorem mw_mem : ∀ w ∈ [mArrow, mSet, mOpen, mClose, mSeq, mEq, mGet] ++ opWords, w ∈ markWords := by
  intro w hw
  simp only [opWords, List.mem_cons, List.not_mem_nil, or_false, List.mem_append] at hw
  rcases hw with (rfl | rfl | rfl | rfl | rfl | rfl | rfl) | (rfl | rfl | rfl | rfl | rfl) <;> simp [markWords, mArrow, mSet, mOpen, mClose, mSeq, mEq, mGet]
theorem rk {w : ByteArray} (h : w ∈ [kFun, kLet, kIn, kIf, kThen, kElse, kWhile, kDo, kRaise, kTry, kWith]) : rightT (keyTok w) = true := right_key (kw_mem w h)
theorem rm {w : ByteArray} (h : w ∈ [mArrow, mSet, mOpen, mClose, mSeq, mEq, mGet] ++ opWords) : rightT (markTok w) = true := right_mark (mw_mem w h)
theorem in_right {t : Tm} (h : (toksT t).all rightT = true) : (inT t).all rightT = true := by
  unfold inT withinT
  split
  · exact h
  · rw [List.all_append, List.all_cons, h, rm (by simp)]; simp [rm (w := mClose) (by simp)]
theorem toks_right (t : Tm) (h : nodesT t = true) : (toksT t).all rightT = true := by
  refine shown_ind (P := fun t => (toksT t).all rightT = true) ?_ ?_ ?_ ?_ ?_ ?_ ?_ ?_ ?_ ?_ ?_ ?_ ?_ t h
  · intro n h0 h1; show ([numTok n]).all rightT = true; simp [right_num h0 h1]
  · intro nm hn; show ([nameTok nm]).all rightT = true; simp [right_name hn]
  · intro nm a hn _ pa; show (keyTok kFun :: nameTok nm :: markTok mArrow :: inT a).all rightT = true
    simp only [List.all_cons, rk (w := kFun) (by simp), right_name hn, rm (w := mArrow) (by simp), in_right pa, Bool.and_true]
  · intro a b _ _ pa pb; show (inT a ++ inT b).all rightT = true; rw [List.all_append, in_right pa, in_right pb]; rfl
  · intro nm a b hn _ _ pa pb; show (keyTok kLet :: nameTok nm :: markTok mEq :: (inT a ++ keyTok kIn :: inT b)).all rightT = true
    simp only [List.all_cons, List.all_append, rk (w := kLet) (by simp), rk (w := kIn) (by simp), right_name hn, rm (w := mEq) (by simp), in_right pa, in_right pb, Bool.and_true]
  · intro a b c _ _ _ pa pb pc; show (keyTok kIf :: (inT a ++ keyTok kThen :: (inT b ++ keyTok kElse :: inT c))).all rightT = true
    simp only [List.all_cons, List.all_append, rk (w := kIf) (by simp), rk (w := kThen) (by simp), rk (w := kElse) (by simp), in_right pa, in_right pb, in_right pc, Bool.and_true]
  · intro a b _ _ pa pb; show (keyTok kWhile :: (inT a ++ keyTok kDo :: inT b)).all rightT = true
    simp only [List.all_cons, List.all_append, rk (w := kWhile) (by simp), rk (w := kDo) (by simp), in_right pa, in_right pb, Bool.and_true]
  · intro a _ pa; show (keyTok kRaise :: inT a).all rightT = true
    simp only [List.all_cons, rk (w := kRaise) (by simp), in_right pa, Bool.and_true]
  · intro nm a b hn _ _ pa pb; show (keyTok kTry :: (inT a ++ keyTok kWith :: nameTok nm :: markTok mArrow :: inT b)).all rightT = true
    simp only [List.all_cons, List.all_append, rk (w := kTry) (by simp), rk (w := kWith) (by simp), right_name hn, rm (w := mArrow) (by simp), in_right pa, in_right pb, Bool.and_true]
  · intro a _ pa; show (markTok mGet :: inT a).all rightT = true
    simp only [List.all_cons, rm (w := mGet) (by simp), in_right pa, Bool.and_true]
  · intro a b _ _ pa pb; show (inT a ++ markTok mSet :: inT b).all rightT = true
    simp only [List.all_cons, List.all_append, rm (w := mSet) (by simp), in_right pa, in_right pb, Bool.and_true]
  · intro nm a b hn _ _ pa pb; show (inT a ++ markTok nm :: inT b).all rightT = true
    simp only [List.all_cons, List.all_append, rm (w := nm) (List.mem_append_right _ hn), in_right pa, in_right pb, Bool.and_true]
  · intro a b _ _ pa pb; show (inT a ++ markTok mSeq :: inT b).all rightT = true
    simp only [List.all_cons, List.all_append, rm (w := mSeq) (by simp), in_right pa, in_right pb, Bool.and_true]

/-! ### how deep parentheses are nested -/
/-- Tokens in which each parenthesis is closed, nested at most d deep. -/
def Bal (d : Int) (ts : List TokT) : Prop := ∀ n m : Int, ∃ m', ts.foldl nestStep (n, m) = (n, m') ∧ m ≤ m' ∧ m' ≤ max m (n + d)
theorem Bal.nil {d : Int} (h : 0 ≤ d) : Bal d [] := fun n m => ⟨m, rfl, Int.le_refl _, by omega⟩
theorem Bal.app {d : Int} {a b : List TokT} (h : Bal d a) (k : Bal d b) : Bal d (a ++ b) := by
  intro n m
  obtain ⟨m1, e1, h1, h2⟩ := h n m
  obtain ⟨m2, e2, h3, h4⟩ := k n m1
  exact ⟨m2, by rw [List.foldl_append, e1, e2], by omega, by omega⟩
theorem Bal.cons {d : Int} {x : TokT} {a : List TokT} (hx : ∀ n m, nestStep (n, m) x = (n, m) ∨ nestStep (n, m) x = (n, max m n)) (hd : 0 ≤ d) (k : Bal d a) : Bal d (x :: a) := by
  intro n m
  rw [List.foldl_cons]
  rcases hx n m with e | e
  · rw [e]; exact k n m
  · rw [e]
    obtain ⟨m2, e2, h3, h4⟩ := k n (max m n)
    exact ⟨m2, e2, by omega, by omega⟩
theorem Bal.mono {d d' : Int} {a : List TokT} (h : Bal d a) (hd : d ≤ d') : Bal d' a := fun n m => by
  obtain ⟨m1, e1, h1, h2⟩ := h n m
  exact ⟨m1, e1, h1, by omega⟩
theorem nest_low {x : TokT} (h : x.f0 ≠ 4) (n m : Int) : nestStep (n, m) x = (n, m) ∨ nestStep (n, m) x = (n, max m n) := .inl (by unfold nestStep; rw [if_pos h])
theorem nest_mark {w : ByteArray} (h1 : w.data.toList ≠ [40]) (h2 : w.data.toList ≠ [41]) (n m : Int) : nestStep (n, m) (markTok w) = (n, m) ∨ nestStep (n, m) (markTok w) = (n, max m n) :=
  .inr (by unfold nestStep; rw [if_neg (by simp [markTok])]; simp [markTok, h1, h2])
theorem nest_open (n m : Int) : nestStep (n, m) (markTok mOpen) = (n + 1, max m (n + 1)) := by simp [nestStep, markTok, mOpen]
theorem nest_close (n m : Int) : nestStep (n, m) (markTok mClose) = (n - 1, max m (n - 1)) := by simp [nestStep, markTok, mClose]
theorem Bal.paren {d : Int} {a : List TokT} (h : Bal d a) (hd : 0 ≤ d) : Bal (d + 1) (markTok mOpen :: a ++ [markTok mClose]) := by
  intro n m
  obtain ⟨m1, e1, h1, h2⟩ := h (n + 1) (max m (n + 1))
  refine ⟨max m1 n, ?_, by omega, by omega⟩
  rw [List.cons_append, List.foldl_cons, nest_open, List.foldl_append, e1, List.foldl_cons, nest_close, List.foldl_nil, Int.add_sub_cancel]
theorem Bal.in_ {t : Tm} {d : Nat} (h : Bal ((d : Int) - 1) (toksT t)) (hd : 1 ≤ d) : Bal d (inT t) := by
  unfold inT withinT
  split
  · exact h.mono (by omega)
  · have := h.paren (by omega)
    rwa [Int.sub_add_cancel] at this
theorem depth_pos (t : Tm) : 1 ≤ depthT t := by cases t; rw [depthT]; omega
theorem size_pos (t : Tm) : 1 ≤ sizeT t := by cases t; rw [sizeT]; omega
theorem nk (w : ByteArray) (n m : Int) : nestStep (n, m) (keyTok w) = (n, m) ∨ nestStep (n, m) (keyTok w) = (n, max m n) := nest_low (by simp [keyTok]) n m
theorem nn (w : ByteArray) (n m : Int) : nestStep (n, m) (nameTok w) = (n, m) ∨ nestStep (n, m) (nameTok w) = (n, max m n) := nest_low (by simp [nameTok]) n m
theorem toks_bal (t : Tm) (h : nodesT t = true) : Bal ((depthT t : Int) - 1) (toksT t) := by
  have one : ∀ (k : Int) nm (a : Tm), Bal ((depthT a : Int) - 1) (toksT a) → Bal ((depthT (tm k nm [a]) : Int) - 1) (inT a) := fun k nm a h => by
    have e : depthT (tm k nm [a]) = depthT a + 1 := by show max (depthT a) 0 + 1 = _; omega
    rw [e]; exact (h.in_ (depth_pos a)).mono (by omega)
  have two : ∀ (k : Int) nm (a b : Tm), Bal ((depthT a : Int) - 1) (toksT a) → Bal ((depthT b : Int) - 1) (toksT b) → Bal ((depthT (tm k nm [a, b]) : Int) - 1) (inT a) ∧ Bal ((depthT (tm k nm [a, b]) : Int) - 1) (inT b) ∧ (0 : Int) ≤ (depthT (tm k nm [a, b]) : Int) - 1 := fun k nm a b h h' => by
    have e : depthT (tm k nm [a, b]) = max (depthT a) (max (depthT b) 0) + 1 := rfl
    rw [e]; exact ⟨(h.in_ (depth_pos a)).mono (by omega), (h'.in_ (depth_pos b)).mono (by omega), by omega⟩
  have p0 : ∀ t : Tm, (0 : Int) ≤ (depthT t : Int) - 1 := fun t => by have := depth_pos t; omega
  have opn : ∀ nm ∈ opWords, nm.data.toList ≠ [40] ∧ nm.data.toList ≠ [41] := fun nm hm => by
    have key : opWords.all (fun o => !(o.data.toList == [40]) && !(o.data.toList == [41])) = true := by decide +kernel
    have := List.all_eq_true.1 key nm hm
    simpa using this
  refine shown_ind (P := fun t => Bal ((depthT t : Int) - 1) (toksT t)) ?_ ?_ ?_ ?_ ?_ ?_ ?_ ?_ ?_ ?_ ?_ ?_ ?_ t h
  · intro n h0 h1; exact Bal.cons (x := numTok n) (nest_low (by simp [numTok])) (p0 _) (Bal.nil (p0 _))
  · intro nm hn; exact Bal.cons (nn nm) (p0 _) (Bal.nil (p0 _))
  · intro nm a hn _ pa; exact Bal.cons (nk kFun) (p0 _) (Bal.cons (nn nm) (p0 _) (Bal.cons (nest_mark (by decide) (by decide)) (p0 _) (one _ _ _ pa)))
  · intro a b _ _ pa pb; obtain ⟨h1, h2, h3⟩ := two 4 noName a b pa pb; exact h1.app h2
  · intro nm a b hn _ _ pa pb; obtain ⟨h1, h2, h3⟩ := two 5 nm a b pa pb; exact Bal.cons (nk kLet) h3 (Bal.cons (nn nm) h3 (Bal.cons (nest_mark (by decide) (by decide)) h3 (h1.app (Bal.cons (nk kIn) h3 h2))))
  · intro a b c _ _ _ pa pb pc
    have e : depthT (tm 6 noName [a, b, c]) = max (depthT a) (max (depthT b) (max (depthT c) 0)) + 1 := rfl
    have h0 : (0 : Int) ≤ (depthT (tm 6 noName [a, b, c]) : Int) - 1 := by omega
    have h1 : Bal ((depthT (tm 6 noName [a, b, c]) : Int) - 1) (inT a) := by rw [e]; exact (pa.in_ (depth_pos a)).mono (by omega)
    have h2 : Bal ((depthT (tm 6 noName [a, b, c]) : Int) - 1) (inT b) := by rw [e]; exact (pb.in_ (depth_pos b)).mono (by omega)
    have h3 : Bal ((depthT (tm 6 noName [a, b, c]) : Int) - 1) (inT c) := by rw [e]; exact (pc.in_ (depth_pos c)).mono (by omega)
    exact Bal.cons (nk kIf) h0 (h1.app (Bal.cons (nk kThen) h0 (h2.app (Bal.cons (nk kElse) h0 h3))))
  · intro a b _ _ pa pb; obtain ⟨h1, h2, h3⟩ := two 7 noName a b pa pb; exact Bal.cons (nk kWhile) h3 (h1.app (Bal.cons (nk kDo) h3 h2))
  · intro a _ pa; exact Bal.cons (nk kRaise) (p0 _) (one _ _ _ pa)
  · intro nm a b hn _ _ pa pb; obtain ⟨h1, h2, h3⟩ := two 9 nm a b pa pb; exact Bal.cons (nk kTry) h3 (h1.app (Bal.cons (nk kWith) h3 (Bal.cons (nn nm) h3 (Bal.cons (nest_mark (by decide) (by decide)) h3 h2))))
  · intro a _ pa; exact Bal.cons (nest_mark (by decide) (by decide)) (p0 _) (one _ _ _ pa)
  · intro a b _ _ pa pb; obtain ⟨h1, h2, h3⟩ := two 11 noName a b pa pb; exact h1.app (Bal.cons (nest_mark (by decide) (by decide)) h3 h2)
  · intro nm a b hn _ _ pa pb; obtain ⟨h1, h2, h3⟩ := two 12 nm a b pa pb; exact h1.app (Bal.cons (nest_mark (opn nm hn).1 (opn nm hn).2) h3 h2)
  · intro a b _ _ pa pb; obtain ⟨h1, h2, h3⟩ := two 13 noName a b pa pb; exact h1.app (Bal.cons (nest_mark (by decide) (by decide)) h3 h2)
theorem Bal.nest {d : Int} {ts : List TokT} (h : Bal d ts) (hd : 0 ≤ d) : nestL ts ≤ d := by
  obtain ⟨m, e, h1, h2⟩ := h 0 0
  unfold nestL
  rw [e]
  show m ≤ d
  omega

/-- The tokens that are shown of a right term are read as it. -/
theorem toksR_back (t : Tm) (h : rightTm t = true) : toksR (toksT t) = (t, 0) := by
  unfold rightTm at h
  simp only [Bool.and_eq_true, decide_eq_true_eq] at h
  obtain ⟨⟨h1, h2⟩, h3⟩ := h
  have hb := (toks_bal t h3).nest (by have := depth_pos t; omega)
  have hp : parseL (toksT t) = some (t, []) := by
    have := ((back t h3).all [] Stops.nil (isL_nil _)).parse
    rwa [List.append_nil] at this
  unfold toksR
  rw [toks_right t h3, if_neg (by decide), if_neg (by omega), hp]
  simp only [ne_eq, not_true_eq_false, if_false]
  rw [if_neg (by omega)]
end Go.Proofs.YtchekgnacodolaaGreatDoor.X
/- What is parsed is right, and what is shown of it is not much longer than what it was parsed of. -/
namespace Go.Proofs.YtchekgnacodolaaGreatDoor.X
set_option linter.unusedSimpArgs false
set_option linter.unusedVariables false

/-- How long tokens are as a text, each with a blank. -/
def W : List TokT → Nat
  | [] => 0
  | t :: r => t.f1.size + 1 + W r
theorem W_app (a b : List TokT) : W (a ++ b) = W a + W b := by
  induction a with
  | nil => simp [W]
  | cons x a ih => rw [List.cons_append, W, W, ih]; omega
theorem W_cons (x : TokT) (r : List TokT) : W (x :: r) = x.f1.size + 1 + W r := rfl
theorem W_in (t : Tm) : W (inT t) ≤ W (toksT t) + 4 := by
  unfold inT withinT
  split
  · omega
  · rw [W_app, W_cons]
    have e1 : (markTok mOpen).f1.size = 1 := rfl
    have e2 : W [markTok mClose] = 2 := rfl
    omega
theorem W_len (l : List TokT) : (printL l).length ≤ W l := by
  refine Nat.le_trans (printL_len l) ?_
  induction l with
  | nil => exact Nat.le_refl _
  | cons x l ih => rw [List.map_cons, List.sum_cons, W]; omega
structure Good (c : Nat) (t : Tm) : Prop where
  nodes : nodesT t = true
  w : W (inT t) + 4 ≤ 4 * c
  n : sizeT t + 1 ≤ c
def Holds (a : PR) (Q : Tm → List TokT → Prop) : Prop := ∀ t s', a = some (some (t, s')) → Q t s'
theorem Holds.fail (Q : Tm → List TokT → Prop) : Holds (some none) Q := fun _ _ h => by cases h
theorem Holds.none (Q : Tm → List TokT → Prop) : Holds Option.none Q := fun _ _ h => by cases h
theorem Holds.ret {Q : Tm → List TokT → Prop} {t : Tm} {s : List TokT} (h : Q t s) : Holds (PR.ret t s) Q := fun _ _ e => by injection e with e; injection e with e; injection e with e1 e2; subst e1 e2; exact h
theorem Holds.then_ {Q Q' : Tm → List TokT → Prop} {a : PR} {f : Tm → List TokT → PR} (h : Holds a Q) (hf : ∀ t s, Q t s → Holds (f t s) Q') : Holds (a.then_ f) Q' := by
  intro t s' e
  cases a with
  | none => cases e
  | some x =>
    cases x with
    | none => cases e
    | some p => exact hf p.1 p.2 (h _ _ rfl) t s' e
theorem Holds.ite {Q : Tm → List TokT → Prop} {c : Prop} [Decidable c] {a b : PR} (h : c → Holds a Q) (k : ¬ c → Holds b Q) : Holds (if c then a else b) Q := by
  split
  · exact h ‹_›
  · exact k ‹_›
theorem isL_w {s : List TokT} {m : ByteArray} (h : isL s m = true) (hr : s.all rightT = true) : s.tail.all rightT = true ∧ W s = m.size + 1 + W s.tail := by
  obtain ⟨x, r, rfl⟩ := isL_ne h
  rw [isL_cons, Bool.and_eq_true] at h
  have e := ba_eq (eq_of_beq h.2)
  rw [List.all_cons, Bool.and_eq_true] at hr
  refine ⟨hr.2, ?_⟩
  rw [W_cons, e]; rfl
theorem Holds.key {Q Q' : Tm → List TokT → Prop} {a : PR} {m : ByteArray} {f : Tm → List TokT → PR} (h : Holds a Q) (hf : ∀ t s, Q t s → isL s m = true → Holds (f t s.tail) Q') : Holds (a.key m f) Q' :=
  h.then_ fun t s q => Holds.ite (fun c => hf t s q c) fun _ => Holds.fail _
theorem Holds.name {Q' : Tm → List TokT → Prop} {s : List TokT} {m : ByteArray} {f : ByteArray → List TokT → PR} (hr : s.all rightT = true) (hf : ∀ n s', wordB n = true → s'.all rightT = true → W s = n.size + 1 + (m.size + 1) + W s' → Holds (f n s') Q') : Holds (PR.name (boundL s m) f) Q' := by
  unfold boundL
  split
  · rename_i h1
    split
    · rename_i h2
      obtain ⟨x, r, rfl⟩ := peek_ne (s := s) (by rw [h1]; decide)
      rw [List.all_cons, Bool.and_eq_true] at hr
      obtain ⟨h3, h4⟩ := isL_w h2 hr.2
      refine hf x.f1 _ (name_right hr.1 h1).1 h3 ?_
      rw [W_cons]
      simp only [List.tail_cons] at h4 ⊢
      omega
    · exact Holds.fail _
  · exact Holds.fail _
/-- What a reader has gone by: c weighs it. -/
def Q0 (c0 : Nat) (s : List TokT) (t : Tm) (s' : List TokT) : Prop := s'.all rightT = true ∧ W s' ≤ W s ∧ Good (c0 + (W s - W s')) t
theorem word_nodes1 {nm : ByteArray} {x : Tm} (hn : wordB nm = true) (h : nodesT x = true) : nodesT (tm 3 nm [x]) = true := by
  show (nodeB 3 nm 0 1 && (nodesT x && true)) = true
  rw [h, (nodeB_iff 3 nm 0 1).2 ⟨by decide, by decide, rfl, by decide, by decide, .inr rfl, by rw [if_pos (by decide)]; exact hn⟩]; rfl
theorem word_nodes2 {nm : ByteArray} {x y : Tm} (k : Int) (hk : k = 5 ∨ k = 9) (hn : wordB nm = true) (h : nodesT x = true) (h' : nodesT y = true) : nodesT (tm k nm [x, y]) = true := by
  show (nodeB k nm 0 2 && (nodesT x && (nodesT y && true))) = true
  rcases hk with rfl | rfl
  · rw [h, h', (nodeB_iff 5 nm 0 2).2 ⟨by decide, by decide, rfl, by decide, by decide, .inr rfl, by rw [if_pos (by decide)]; exact hn⟩]; rfl
  · rw [h, h', (nodeB_iff 9 nm 0 2).2 ⟨by decide, by decide, rfl, by decide, by decide, .inr rfl, by rw [if_pos (by decide)]; exact hn⟩]; rfl
theorem plain_nodes1 {x : Tm} (k : Int) (hk : k = 8 ∨ k = 10) (h : nodesT x = true) : nodesT (tm k noName [x]) = true := by
  show (nodeB k noName 0 1 && (nodesT x && true)) = true
  rcases hk with rfl | rfl <;> rw [h, (nodeB_iff _ noName 0 1).2 ⟨by decide, by decide, rfl, by decide, by decide, .inr rfl, by rw [if_neg (by decide), if_neg (by decide)]⟩] <;> rfl
theorem plain_nodes2 {x y : Tm} (k : Int) (hk : k = 4 ∨ k = 7 ∨ k = 11 ∨ k = 13) (h : nodesT x = true) (h' : nodesT y = true) : nodesT (tm k noName [x, y]) = true := by
  show (nodeB k noName 0 2 && (nodesT x && (nodesT y && true))) = true
  rcases hk with rfl | rfl | rfl | rfl <;> rw [h, h', (nodeB_iff _ noName 0 2).2 ⟨by decide, by decide, rfl, by decide, by decide, .inr rfl, by rw [if_neg (by decide), if_neg (by decide)]⟩] <;> rfl
theorem op_nodes {nm : ByteArray} {x y : Tm} (hn : nm ∈ opWords) (h : nodesT x = true) (h' : nodesT y = true) : nodesT (tm 12 nm [x, y]) = true := by
  show (nodeB 12 nm 0 2 && (nodesT x && (nodesT y && true))) = true
  rw [h, h', (nodeB_iff 12 nm 0 2).2 ⟨by decide, by decide, rfl, by decide, by decide, .inr rfl, by rw [if_neg (by decide), if_pos rfl]; exact hn⟩]; rfl
theorem if_nodes {x y z : Tm} (h : nodesT x = true) (h' : nodesT y = true) (h'' : nodesT z = true) : nodesT (tm 6 noName [x, y, z]) = true := by
  show (nodeB 6 noName 0 3 && (nodesT x && (nodesT y && (nodesT z && true)))) = true
  rw [h, h', h'', (nodeB_iff 6 noName 0 3).2 ⟨by decide, by decide, rfl, by decide, by decide, .inr rfl, by rw [if_neg (by decide), if_neg (by decide)]⟩]; rfl
theorem size1 (k : Int) (nm : ByteArray) (x : Tm) : sizeT (tm k nm [x]) = 1 + sizeT x := rfl
theorem size2 (k : Int) (nm : ByteArray) (x y : Tm) : sizeT (tm k nm [x, y]) = 1 + (sizeT x + sizeT y) := rfl
theorem size3 (k : Int) (nm : ByteArray) (x y z : Tm) : sizeT (tm k nm [x, y, z]) = 1 + (sizeT x + (sizeT y + sizeT z)) := rfl
theorem wk (w : ByteArray) (r : List TokT) : W (keyTok w :: r) = w.size + 1 + W r := rfl
theorem wm (w : ByteArray) (r : List TokT) : W (markTok w :: r) = w.size + 1 + W r := rfl
theorem wn (w : ByteArray) (r : List TokT) : W (nameTok w :: r) = w.size + 1 + W r := rfl
theorem num_nodes {n : Int} (h0 : 0 ≤ n) (h1 : n < 2147483648) : nodesT ⟨1, noName, n, []⟩ = true := by
  show (nodeB 1 noName n 0 && true) = true
  rw [(nodeB_iff 1 noName n 0).2 ⟨by decide, by decide, rfl, h0, h1, .inl rfl, by rw [if_neg (by decide), if_neg (by decide)]⟩]; rfl
theorem var_nodes {nm : ByteArray} (hn : wordB nm = true) : nodesT (tm 2 nm []) = true := by
  show (nodeB 2 nm 0 0 && true) = true
  rw [(nodeB_iff 2 nm 0 0).2 ⟨by decide, by decide, rfl, by decide, by decide, .inr rfl, by rw [if_pos (by decide)]; exact hn⟩]; rfl
theorem word_size {nm : ByteArray} (h : wordB nm = true) : 1 ≤ nm.size := by
  unfold wordB at h
  rw [Bool.and_eq_true] at h
  rw [size_len]
  cases hd : nm.data.toList with
  | nil => rw [hd] at h; simp [nameL] at h
  | cons b r => simp
theorem num_size {n : Int} (h0 : 0 ≤ n) (h1 : n < 2147483648) : 1 ≤ (numTok n).f1.size := by
  have : (numTok n).f1.size = (itoaF n).length := B_size _
  rw [this]
  unfold itoaF
  rw [if_neg (by omega)]
  have := decF_ne 19 n.toNat
  cases hd : decF 20 n.toNat with
  | nil => exact absurd hd this
  | cons b r => simp
def Pre (c0 : Nat) : Mode → Prop
  | .apps t => Good c0 t
  | _ => c0 = 0
theorem run_good : ∀ k m s c0, s.all rightT = true → Pre c0 m → Holds (run k m s) (Q0 c0 s)
  | 0, m, s, c0, _, _ => Holds.none _
  | k + 1, m, s, c0, hr, hp => by
    have ih : ∀ (m : Mode) (s : List TokT), s.all rightT = true → Pre 0 m → Holds (run k m s) (Q0 0 s) := fun m s h h' => run_good k m s 0 h h'
    have sz : mOpen.size = 1 ∧ mClose.size = 1 ∧ mGet.size = 1 ∧ mSet.size = 2 ∧ mSeq.size = 1 ∧ mArrow.size = 2 ∧ mEq.size = 1 := ⟨rfl, rfl, rfl, rfl, rfl, rfl, rfl⟩
    have sk : kFun.size = 3 ∧ kLet.size = 3 ∧ kIn.size = 2 ∧ kIf.size = 2 ∧ kThen.size = 4 ∧ kElse.size = 4 ∧ kWhile.size = 5 ∧ kDo.size = 2 ∧ kRaise.size = 5 ∧ kTry.size = 3 ∧ kWith.size = 4 := ⟨rfl, rfl, rfl, rfl, rfl, rfl, rfl, rfl, rfl, rfl, rfl⟩
    obtain ⟨z1, z2, z3, z4, z5, z6, z7⟩ := sz
    obtain ⟨k1, k2, k3, k4, k5, k6, k7, k8, k9, k10, k11⟩ := sk
    have P1 : ∀ (nm : ByteArray) (n : Int) (kk : Int) (kids : List Tm) (c : Nat), W (toksT ⟨kk, nm, n, kids⟩) + 8 ≤ 4 * c → W (inT ⟨kk, nm, n, kids⟩) + 4 ≤ 4 * c := fun nm n kk kids c h => by have := W_in ⟨kk, nm, n, kids⟩; omega
    cases m with
    | part =>
      obtain rfl : c0 = 0 := hp
      refine Holds.ite (fun c => ?_) fun _ => Holds.ite (fun c => ?_) fun _ => Holds.ite (fun c => ?_) fun _ => Holds.ite (fun c => ?_) fun _ => Holds.fail _
      · obtain ⟨r1, w1⟩ := isL_w c hr
        refine (ih .part _ r1 rfl).then_ fun t s1 ⟨a1, a2, a3⟩ => Holds.ret ⟨a1, by omega, plain_nodes1 10 (.inr rfl) a3.nodes, P1 _ _ _ _ _ ?_, ?_⟩
        · show W (markTok mGet :: inT t) + 8 ≤ _
          have := a3.w
          rw [wm]; omega
        · have := a3.n
          rw [size1]; omega
      · obtain ⟨r1, w1⟩ := isL_w c hr
        refine (ih .all _ r1 rfl).key fun t s1 ⟨a1, a2, a3⟩ c2 => ?_
        obtain ⟨r2, w2⟩ := isL_w c2 a1
        exact Holds.ret ⟨r2, by omega, a3.nodes, by have := a3.w; omega, by have := a3.n; omega⟩
      · obtain ⟨x, r, rfl⟩ := peek_ne (s := s) (by rw [c]; decide)
        rw [List.all_cons, Bool.and_eq_true] at hr
        obtain ⟨hw, he⟩ := name_right hr.1 c
        have hs := word_size hw
        refine Holds.ret ⟨hr.2, by rw [W_cons]; exact Nat.le_add_left _ _, var_nodes hw, ?_, ?_⟩
        · show W [nameTok x.f1] + 4 ≤ _
          rw [wn, W_cons, List.tail_cons]
          simp only [W]
          omega
        · show 1 + 1 ≤ _
          rw [W_cons, List.tail_cons]; omega
      · obtain ⟨x, r, rfl⟩ := peek_ne (s := s) (by rw [c]; decide)
        rw [List.all_cons, Bool.and_eq_true] at hr
        obtain ⟨h0, h1, he⟩ := num_right2 hr.1 c
        have hs := num_size h0 h1
        rw [← he] at hs
        refine Holds.ret ⟨hr.2, by rw [W_cons]; exact Nat.le_add_left _ _, num_nodes h0 h1, ?_, ?_⟩
        · show W [numTok x.f2] + 4 ≤ _
          rw [← he]
          rw [W_cons, W_cons, List.tail_cons]
          simp only [W]
          omega
        · show 1 + 1 ≤ _
          rw [W_cons, List.tail_cons]; omega
    | apps t =>
      have hg : Good c0 t := hp
      refine Holds.ite (fun c => ?_) fun _ => Holds.ret ⟨hr, Nat.le_refl _, by rw [Nat.sub_self, Nat.add_zero]; exact hg⟩
      refine (ih .part s hr rfl).then_ fun u s1 ⟨a1, a2, a3⟩ => ?_
      have hgood : Good (c0 + (W s - W s1)) (tm 4 noName [t, u]) := by
        refine ⟨plain_nodes2 4 (.inl rfl) hg.nodes a3.nodes, P1 _ _ _ _ _ ?_, ?_⟩
        · show W (inT t ++ inT u) + 8 ≤ _
          have h1 := hg.w
          have h2 := a3.w
          rw [W_app]; omega
        · have h1 := hg.n
          have h2 := a3.n
          have h3 := a3.w
          have h4 := hg.w
          rw [size2]
          omega
      have := run_good k (.apps (tm 4 noName [t, u])) s1 _ a1 hgood
      intro v s2 e
      obtain ⟨b1, b2, b3⟩ := this v s2 e
      refine ⟨b1, by omega, ?_⟩
      have e2 : c0 + (W s - W s1) + (W s1 - W s2) = c0 + (W s - W s2) := by omega
      rw [← e2]; exact b3
    | parts =>
      obtain rfl : c0 = 0 := hp
      refine (ih .part s hr rfl).then_ fun u s1 ⟨a1, a2, a3⟩ => ?_
      have := run_good k (.apps u) s1 _ a1 a3
      intro v s2 e
      obtain ⟨b1, b2, b3⟩ := this v s2 e
      refine ⟨b1, by omega, ?_⟩
      have e2 : 0 + (W s - W s1) + (W s1 - W s2) = 0 + (W s - W s2) := by omega
      rw [← e2]; exact b3
    | plain =>
      obtain rfl : c0 = 0 := hp
      refine (ih .parts s hr rfl).then_ fun t s1 ⟨a1, a2, a3⟩ => Holds.ite (fun c => ?_) fun _ => ?_
      · obtain ⟨r1, w1⟩ := isL_w c a1
        refine (ih .one _ r1 rfl).then_ fun u s2 ⟨b1, b2, b3⟩ => Holds.ret ⟨b1, by omega, plain_nodes2 11 (by simp) a3.nodes b3.nodes, P1 _ _ _ _ _ ?_, ?_⟩
        · show W (inT t ++ markTok mSet :: inT u) + 8 ≤ _
          have h1 := a3.w
          have h2 := b3.w
          rw [W_app, wm]; omega
        · have h1 := a3.n
          have h2 := b3.n
          rw [size2]; omega
      · cases hf : opWords.find? (isL s1) with
        | none => exact Holds.ret ⟨a1, a2, a3⟩
        | some o =>
          obtain ⟨r1, w1⟩ := isL_w (List.find?_some hf) a1
          have ho := List.mem_of_find?_eq_some hf
          have hos : o.size = 1 := by simp only [opWords, List.mem_cons, List.not_mem_nil, or_false] at ho; rcases ho with rfl | rfl | rfl | rfl | rfl <;> rfl
          refine (ih .parts _ r1 rfl).then_ fun u s2 ⟨b1, b2, b3⟩ => Holds.ret ⟨b1, by omega, op_nodes ho a3.nodes b3.nodes, P1 _ _ _ _ _ ?_, ?_⟩
          · show W (inT t ++ markTok o :: inT u) + 8 ≤ _
            have h1 := a3.w
            have h2 := b3.w
            rw [W_app, wm]; omega
          · have h1 := a3.n
            have h2 := b3.n
            rw [size2]; omega
    | one =>
      obtain rfl : c0 = 0 := hp
      refine Holds.ite (fun c => ?_) fun _ => Holds.ite (fun c => ?_) fun _ => Holds.ite (fun c => ?_) fun _ => Holds.ite (fun c => ?_) fun _ => Holds.ite (fun c => ?_) fun _ => Holds.ite (fun c => ?_) fun _ => ih .plain s hr rfl
      · obtain ⟨r1, w1⟩ := isL_w c hr
        refine Holds.name r1 fun n s1 hn r2 w2 => (ih .all _ r2 rfl).then_ fun x s2 ⟨b1, b2, b3⟩ => Holds.ret ⟨b1, by omega, word_nodes1 hn b3.nodes, P1 _ _ _ _ _ ?_, ?_⟩
        · show W (keyTok kFun :: nameTok n :: markTok mArrow :: inT x) + 8 ≤ _
          have h2 := b3.w
          rw [wk, wn, wm]; omega
        · have h2 := b3.n
          rw [size1]; omega
      · obtain ⟨r1, w1⟩ := isL_w c hr
        refine Holds.name r1 fun n s1 hn r2 w2 => (ih .all _ r2 rfl).key fun x s2 ⟨b1, b2, b3⟩ c2 => ?_
        obtain ⟨r3, w3⟩ := isL_w c2 b1
        refine (ih .all _ r3 rfl).then_ fun y s3 ⟨d1, d2, d3⟩ => Holds.ret ⟨d1, by omega, word_nodes2 5 (.inl rfl) hn b3.nodes d3.nodes, P1 _ _ _ _ _ ?_, ?_⟩
        · show W (keyTok kLet :: nameTok n :: markTok mEq :: (inT x ++ keyTok kIn :: inT y)) + 8 ≤ _
          have h2 := b3.w
          have h3 := d3.w
          rw [wk, wn, wm, W_app, wk]; omega
        · have h2 := b3.n
          have h3 := d3.n
          rw [size2]; omega
      · obtain ⟨r1, w1⟩ := isL_w c hr
        refine (ih .all _ r1 rfl).key fun x s2 ⟨b1, b2, b3⟩ c2 => ?_
        obtain ⟨r3, w3⟩ := isL_w c2 b1
        refine (ih .all _ r3 rfl).key fun y s3 ⟨d1, d2, d3⟩ c3 => ?_
        obtain ⟨r4, w4⟩ := isL_w c3 d1
        refine (ih .all _ r4 rfl).then_ fun z s4 ⟨f1, f2, f3⟩ => Holds.ret ⟨f1, by omega, if_nodes b3.nodes d3.nodes f3.nodes, P1 _ _ _ _ _ ?_, ?_⟩
        · show W (keyTok kIf :: (inT x ++ keyTok kThen :: (inT y ++ keyTok kElse :: inT z))) + 8 ≤ _
          have h2 := b3.w
          have h3 := d3.w
          have h4 := f3.w
          rw [wk, W_app, wk, W_app, wk]; omega
        · have h2 := b3.n
          have h3 := d3.n
          have h4 := f3.n
          rw [size3]; omega
      · obtain ⟨r1, w1⟩ := isL_w c hr
        refine (ih .all _ r1 rfl).key fun x s2 ⟨b1, b2, b3⟩ c2 => ?_
        obtain ⟨r3, w3⟩ := isL_w c2 b1
        refine (ih .all _ r3 rfl).then_ fun y s3 ⟨d1, d2, d3⟩ => Holds.ret ⟨d1, by omega, plain_nodes2 7 (by simp) b3.nodes d3.nodes, P1 _ _ _ _ _ ?_, ?_⟩
        · show W (keyTok kWhile :: (inT x ++ keyTok kDo :: inT y)) + 8 ≤ _
          have h2 := b3.w
          have h3 := d3.w
          rw [wk, W_app, wk]; omega
        · have h2 := b3.n
          have h3 := d3.n
          rw [size2]; omega
      · obtain ⟨r1, w1⟩ := isL_w c hr
        refine (ih .one _ r1 rfl).then_ fun x s2 ⟨b1, b2, b3⟩ => Holds.ret ⟨b1, by omega, plain_nodes1 8 (.inl rfl) b3.nodes, P1 _ _ _ _ _ ?_, ?_⟩
        · show W (keyTok kRaise :: inT x) + 8 ≤ _
          have h2 := b3.w
          rw [wk]; omega
        · have h2 := b3.n
          rw [size1]; omega
      · obtain ⟨r1, w1⟩ := isL_w c hr
        refine (ih .all _ r1 rfl).key fun x s2 ⟨b1, b2, b3⟩ c2 => ?_
        obtain ⟨r3, w3⟩ := isL_w c2 b1
        refine Holds.name r3 fun n s3 hn r4 w4 => (ih .all _ r4 rfl).then_ fun y s4 ⟨d1, d2, d3⟩ => Holds.ret ⟨d1, by omega, word_nodes2 9 (.inr rfl) hn b3.nodes d3.nodes, P1 _ _ _ _ _ ?_, ?_⟩
        · show W (keyTok kTry :: (inT x ++ keyTok kWith :: nameTok n :: markTok mArrow :: inT y)) + 8 ≤ _
          have h2 := b3.w
          have h3 := d3.w
          rw [wk, W_app, wk, wn, wm]; omega
        · have h2 := b3.n
          have h3 := d3.n
          rw [size2]; omega
    | all =>
      obtain rfl : c0 = 0 := hp
      refine (ih .one s hr rfl).then_ fun t s1 ⟨a1, a2, a3⟩ => Holds.ite (fun c => ?_) fun _ => Holds.ret ⟨a1, a2, a3⟩
      obtain ⟨r1, w1⟩ := isL_w c a1
      refine (ih .all _ r1 rfl).then_ fun u s2 ⟨b1, b2, b3⟩ => Holds.ret ⟨b1, by omega, plain_nodes2 13 (by simp) a3.nodes b3.nodes, P1 _ _ _ _ _ ?_, ?_⟩
      · show W (inT t ++ markTok mSeq :: inT u) + 8 ≤ _
        have h1 := a3.w
        have h2 := b3.w
        rw [W_app, wm]; omega
      · have h1 := a3.n
        have h2 := b3.n
        rw [size2]; omega

theorem W_mem (l : List TokT) : W l = (l.map fun t => t.f1.size + 1).sum := by
  induction l with
  | nil => rfl
  | cons x l ih => rw [W, ih, List.map_cons, List.sum_cons]
theorem toks_le_in (t : Tm) : W (toksT t) ≤ W (inT t) := by
  unfold inT withinT
  split
  · exact Nat.le_refl _
  · rw [W_app, W_cons]; omega
theorem toksR_cases (l : List TokT) : (∃ e, toksR l = (zTm, e) ∧ (e = 1 ∨ e = 2)) ∨ ∃ t, toksR l = (t, 0) ∧ rightTm t = true ∧ W (toksT t) ≤ 4 * W l ∧ l.all rightT = true ∧ parseL l = some (t, []) := by
  unfold toksR
  split
  · exact .inl ⟨2, rfl, .inr rfl⟩
  · rename_i hr
    have hr : l.all rightT = true := by simpa using hr
    split
    · exact .inl ⟨1, rfl, .inl rfl⟩
    · cases hp : parseL l with
      | none => exact .inl ⟨2, rfl, .inr rfl⟩
      | some q =>
        obtain ⟨t, s⟩ := q
        simp only
        split
        · exact .inl ⟨2, rfl, .inr rfl⟩
        · rename_i hs
          have hs : s = [] := by simpa using hs
          subst hs
          split
          · exact .inl ⟨1, rfl, .inl rfl⟩
          · rename_i hd
            obtain ⟨_, _, hg⟩ := run_good _ .all l 0 hr rfl t [] ((parseL_run l).trans (by rw [hp]))
            refine .inr ⟨t, rfl, ?_, ?_, hr, rfl⟩
            · unfold rightTm
              rw [hg.nodes, decide_eq_true (by omega), decide_eq_true (by omega)]; rfl
            · have := hg.w
              have := toks_le_in t
              simp only [W] at *
              omega
end Go.Proofs.YtchekgnacodolaaGreatDoor.X
/- Texts of terms: what is shown, in parentheses, in line; what they are parsed as. -/
namespace Go.Proofs.YtchekgnacodolaaGreatDoor.X
set_option linter.unusedSimpArgs false
set_option linter.unusedVariables false

theorem printL_app : ∀ (a b : List TokT), a ≠ [] → b ≠ [] → printL (a ++ b) = printL a ++ 32 :: printL b
  | [], _, h, _ => absurd rfl h
  | [t], b, _, h => by
    cases b with
    | nil => exact absurd rfl h
    | cons u l => rfl
  | t :: u :: l, b, _, h => by
    have ih := printL_app (u :: l) b (by simp) h
    show t.f1.data.toList ++ 32 :: printL (u :: l ++ b) = (t.f1.data.toList ++ 32 :: printL (u :: l)) ++ 32 :: printL b
    rw [ih]; simp
theorem toks_ne (t : Tm) (h : nodesT t = true) : toksT t ≠ [] := by
  have hh := (back t h).head
  intro e
  unfold inT withinT at hh
  split at hh
  · rw [e] at hh; cases hh
  · have := (back t h).all [] Stops.nil (isL_nil _)
    rw [e] at this
    obtain ⟨K, hK⟩ := this
    have h2 := run_fin (max K 5) .all [] (by simp [Mode.rank]; omega)
    obtain ⟨r, hr, hw⟩ := h2
    have hK2 : run (max K 5) .all [] = some (some (t, [])) := hK _ (Nat.le_max_left _ _)
    rw [hK2] at hr
    injection hr with hr
    have := (hw t [] hr.symm).2
    simp [Mode.min] at this
theorem lexR_print {l : List TokT} (h : l.all rightT = true) (hl : W l ≤ 65536) : lexR (printL l) = (l, 0) := by
  unfold lexR
  have := W_len l
  rw [if_neg (by omega), tokL_print l h]
/-- What is shown of a right term that is not too long is parsed as it. -/
theorem parseR_show (t : Tm) (h : rightTm t = true) (hl : W (toksT t) ≤ 65536) : parseR (printL (toksT t)) = (t, 0) := by
  have h3 : nodesT t = true := by unfold rightTm at h; simp only [Bool.and_eq_true] at h; exact h.2
  unfold parseR
  rw [lexR_print (toks_right t h3) hl]
  simp only [ne_eq, not_true_eq_false, if_false]
  exact toksR_back t h
theorem nextL_text {b : UInt8} {l : List UInt8} (hok : (nextL (b :: l)).ok = true) (hk : (nextL (b :: l)).kind > 0) : (nextL (b :: l)).text.length = (nextL (b :: l)).long := by
  rw [nextL_cons] at hok hk ⊢
  by_cases h1 : b.toNat = 35
  · rw [if_pos h1] at hk; exact absurd hk (by simp)
  · rw [if_neg h1] at hok hk ⊢
    by_cases h2 : b.toNat = 32 ∨ b.toNat = 10
    · rw [if_pos h2] at hk; exact absurd hk (by simp)
    · rw [if_neg h2] at hok hk ⊢
      by_cases h3 : isDig b = true
      · rw [if_pos h3]
      · rw [if_neg h3] at hok hk ⊢
        by_cases h4 : isWord b = true
        · rw [if_pos h4, wordTok_text, wordTok_long]
        · rw [if_neg h4] at hok hk ⊢
          cases hm : markL (b :: l) with
          | none => rw [hm] at hok; cases hok
          | some m => rfl
theorem tokL_W : ∀ (n : Nat) (l : List UInt8) (ts : List TokT), l.length ≤ n → tokL l = some ts → W ts ≤ 2 * l.length
  | 0, l, ts, hl, h => by
    have : l = [] := List.length_eq_zero_iff.1 (by omega)
    subst this
    rw [tokL_nil] at h
    injection h with h
    subst h; simp [W]
  | n + 1, [], ts, _, h => by
    rw [tokL_nil] at h
    injection h with h
    subst h; simp [W]
  | n + 1, b :: l, ts, hl, h => by
    rw [tokL_cons] at h
    by_cases hok : (nextL (b :: l)).ok = true
    · have hlong := nextL_long hok
      rw [if_pos hok] at h
      have hd : ((b :: l).drop (nextL (b :: l)).long).length = (b :: l).length - (nextL (b :: l)).long := List.length_drop
      by_cases hk : (nextL (b :: l)).kind > 0
      · rw [if_pos hk, Option.map_eq_some_iff] at h
        obtain ⟨a, ha, rfl⟩ := h
        have ih := tokL_W n _ a (by rw [hd]; omega) ha
        have ht := nextL_text hok hk
        rw [W_cons]
        have hs : (B (nextL (b :: l)).text).size = (nextL (b :: l)).text.length := B_size _
        rw [hd] at ih
        simp only [hs]
        omega
      · rw [if_neg hk] at h
        have ih := tokL_W n _ ts (by rw [hd]; omega) h
        rw [hd] at ih
        omega
    · rw [if_neg hok] at h; cases h
theorem parseR_cases (s : List UInt8) : (∃ e, parseR s = (zTm, e) ∧ (e = 1 ∨ e = 2)) ∨ ∃ t, parseR s = (t, 0) ∧ rightTm t = true ∧ W (toksT t) ≤ 8 * s.length ∧ tokL s = some ((lexR s).1) ∧ toksR (lexR s).1 = (t, 0) := by
  unfold parseR
  have hc : ((lexR s).2 = 1 ∨ (lexR s).2 = 2) ∨ ∃ ts, lexR s = (ts, 0) ∧ tokL s = some ts := by
    unfold lexR
    split
    · exact .inl (.inl rfl)
    · cases h : tokL s with
      | none => exact .inl (.inr rfl)
      | some ts => exact .inr ⟨ts, rfl, rfl⟩
  rcases hc with hc | ⟨ts, e, ht⟩
  · rw [if_pos (by omega)]; exact .inl ⟨_, rfl, hc⟩
  · rw [e, if_neg (by simp)]
    rcases toksR_cases ts with ⟨e, h1, h2⟩ | ⟨t, h1, h2, h3, h4, h5⟩
    · exact .inl ⟨e, h1, h2⟩
    · refine .inr ⟨t, h1, h2, ?_, ht, h1⟩
      have hw : W ts ≤ 2 * s.length := tokL_W s.length s ts (Nat.le_refl _) ht
      omega

/-! ### parentheses round -/
def parens : Nat → List TokT → List TokT
  | 0, l => l
  | n + 1, l => markTok mOpen :: parens n l ++ [markTok mClose]
theorem parens_right {l : List TokT} (h : l.all rightT = true) : ∀ n, (parens n l).all rightT = true
  | 0 => h
  | n + 1 => by rw [parens, List.all_append, List.all_cons, parens_right h n, rm (w := mOpen) (by simp)]; simp [rm (w := mClose) (by simp)]
theorem parens_bal {d : Int} {l : List TokT} (h : Bal d l) (hd : 0 ≤ d) : ∀ n : Nat, Bal (d + n) (parens n l)
  | 0 => by simpa [parens] using h
  | n + 1 => by
    have := (parens_bal h hd n).paren (by omega)
    rw [parens]
    exact this.mono (by omega)
theorem parens_W (l : List TokT) : ∀ n, W (parens n l) = 4 * n + W l
  | 0 => by simp [parens]
  | n + 1 => by
    have e1 : (markTok mOpen).f1.size = 1 := rfl
    have e2 : W [markTok mClose] = 2 := rfl
    rw [parens, W_app, W_cons, parens_W l n]; omega
theorem parens_ne {l : List TokT} (h : l ≠ []) : ∀ n, parens n l ≠ []
  | 0 => h
  | n + 1 => by simp [parens]
/-- What is read as a term whatever stops behind it. -/
def ReadsAs (l : List TokT) (t : Tm) : Prop := ∀ s, Stops s → isL s mSeq = false → Reads_ .all (l ++ s) (some (t, s))
theorem reads_toks {t : Tm} (h : nodesT t = true) : ReadsAs (toksT t) t := (back t h).all
theorem ReadsAs.part {l : List TokT} {t : Tm} (h : ReadsAs l t) (s : List TokT) : Reads_ .part (markTok mOpen :: l ++ markTok mClose :: s) (some (t, s)) := by
  rw [List.cons_append]
  exact part_paren (h (markTok mClose :: s) (stops_mark (by simp [stopWords]) _) (by rw [isL_mark]; decide)) (by rw [isL_mark]; decide)
theorem ReadsAs.paren {l : List TokT} {t : Tm} (h : ReadsAs l t) : ReadsAs (markTok mOpen :: l ++ [markTok mClose]) t := by
  intro s hs hq
  have e : markTok mOpen :: l ++ [markTok mClose] ++ s = markTok mOpen :: l ++ markTok mClose :: s := by simp
  rw [e]
  exact all_part (.mark _) (h.part s) hs hq
theorem ReadsAs.parens {l : List TokT} {t : Tm} (h : ReadsAs l t) : ∀ n, ReadsAs (parens n l) t
  | 0 => h
  | n + 1 => (ReadsAs.parens h n).paren
theorem ReadsAs.parse {l : List TokT} {t : Tm} (h : ReadsAs l t) : parseL l = some (t, []) := by
  have := (h [] Stops.nil (isL_nil _)).parse
  rwa [List.append_nil] at this
theorem ReadsAs.open_ {l : List TokT} {t : Tm} (h : ReadsAs l t) : parseL (markTok mOpen :: l) = none := by
  have h1 := h [] Stops.nil (isL_nil _)
  rw [List.append_nil] at h1
  refine Ev.parse ?_
  have hp : Reads_ .part (markTok mOpen :: l) none := Ev.step (Ev.neg (by rw [isL_mark]; decide) (Ev.pos (by rw [isL_mark]; decide) (Ev.unkey h1 (isL_nil _))))
  exact Ev.step (Ev.fail (one_of (.mark l) (Ev.step (Ev.fail (Ev.step (Ev.fail hp))))))
theorem ReadsAs.close_ {l : List TokT} {t : Tm} (h : ReadsAs l t) : parseL (l ++ [markTok mClose]) = some (t, [markTok mClose]) :=
  (h [markTok mClose] (stops_mark (by simp [stopWords]) _) (by rw [isL_mark]; decide)).parse
theorem toksR_reads {l : List TokT} {t : Tm} (h : ReadsAs l t) (hr : l.all rightT = true) (hn : nestL l ≤ 200) (hd : depthT t ≤ 200) (hs : sizeT t ≤ 10000) : toksR l = (t, 0) := by
  unfold toksR
  rw [hr, if_neg (by decide), if_neg (by omega), h.parse]
  simp only [ne_eq, not_true_eq_false, if_false]
  rw [if_neg (by omega)]
theorem nest_open1 {d : Int} {l : List TokT} (h : Bal d l) (hd : 0 ≤ d) : nestL (markTok mOpen :: l) ≤ d + 1 := by
  unfold nestL
  rw [List.foldl_cons, nest_open]
  obtain ⟨m, e, h1, h2⟩ := h (0 + 1) (max 0 (0 + 1))
  rw [e]; show m ≤ _; omega
theorem nest_close1 {d : Int} {l : List TokT} (h : Bal d l) (hd : 0 ≤ d) : nestL (l ++ [markTok mClose]) ≤ d := by
  unfold nestL
  obtain ⟨m, e, h1, h2⟩ := h 0 0
  rw [List.foldl_append, e, List.foldl_cons, nest_close]
  show max m (0 - 1) ≤ _; omega
theorem parseR_print {l : List TokT} (hr : l.all rightT = true) (hl : W l ≤ 65536) : parseR (printL l) = toksR l := by
  unfold parseR
  rw [lexR_print hr hl]
  simp only [ne_eq, not_true_eq_false, if_false]

/-! ### in line -/
theorem ReadsAs.seq {l m : List TokT} {t u : Tm} (h : ReadsAs l t) (k : ReadsAs m u) : ReadsAs (markTok mOpen :: l ++ [markTok mClose] ++ markTok mSeq :: m) (tm 13 noName [t, u]) := by
  intro s hs hq
  have e : markTok mOpen :: l ++ [markTok mClose] ++ markTok mSeq :: m ++ s = markTok mOpen :: l ++ markTok mClose :: (markTok mSeq :: (m ++ s)) := by simp
  rw [e]
  refine Ev.step (Ev.then_ (one_part (.mark _) (h.part (markTok mSeq :: (m ++ s))) (stops_mark (by simp [stopWords]) _)) (Ev.pos (by rw [isL_mark]; decide) (Ev.then_ (k s hs hq) (Ev.now _))))

/-! ### without blanks between -/
theorem nextL_mark1 (c : UInt8) (hc : c = 40 ∨ c = 41 ∨ c = 60 ∨ c = 33) (r : List UInt8) : nextL (c :: r) = ⟨4, [c], 0, 1, true⟩ := by
  have hm : markL (c :: r) = some [c] := by
    unfold markL markIdx
    rcases hc with rfl | rfl | rfl | rfl <;> rfl
  rw [nextL_cons, hm]
  rcases hc with rfl | rfl | rfl | rfl <;> rfl
theorem tokL_mark1 (c : UInt8) (hc : c = 40 ∨ c = 41 ∨ c = 60 ∨ c = 33) (r : List UInt8) : tokL (c :: r) = (tokL r).map (markTok (B [c]) :: ·) := by
  rw [tokL_cons, nextL_mark1 c hc, if_pos rfl, if_pos (show (4 : Int) > 0 by decide)]; rfl
/-- A token behind which a closing parenthesis may stand at once. -/
def endTok (t : TokT) : Bool := decide (t.f0 ≠ 4) || (t.f1.data.toList == [41])
theorem nextL_paren (t : TokT) (h : rightT t = true) (he : endTok t = true) (r : List UInt8) : t.f1.data.toList ≠ [] ∧ 0 < t.f0 ∧ nextL (t.f1.data.toList ++ 41 :: r) = ⟨t.f0, t.f1.data.toList, t.f2, t.f1.data.toList.length, true⟩ := by
  obtain ⟨h1, h2, h3⟩ := rightT_next t h [] (.inl rfl)
  refine ⟨h1, h2, ?_⟩
  rw [List.append_nil] at h3
  unfold endTok at he
  rw [Bool.or_eq_true, decide_eq_true_eq, beq_iff_eq] at he
  cases hd : t.f1.data.toList with
  | nil => exact absurd hd h1
  | cons b d =>
    rw [hd] at h3
    rcases he with he | he
    · rw [List.cons_append, nextL_cons, ← List.cons_append]
      rw [nextL_cons] at h3
      by_cases c1 : b.toNat = 35
      · rw [if_pos c1] at h3; injection h3 with h3; omega
      · rw [if_neg c1] at h3 ⊢
        by_cases c2 : b.toNat = 32 ∨ b.toNat = 10
        · rw [if_pos c2] at h3; injection h3 with h3; omega
        · rw [if_neg c2] at h3 ⊢
          rw [tw_append isDig (b :: d) (41 :: r) (.inr ⟨41, r, rfl, rfl⟩), tw_append isWord (b :: d) (41 :: r) (.inr ⟨41, r, rfl, rfl⟩)]
          by_cases c3 : isDig b = true
          · rw [if_pos c3] at h3 ⊢; exact h3
          · rw [if_neg c3] at h3 ⊢
            by_cases c4 : isWord b = true
            · rw [if_pos c4] at h3 ⊢; exact h3
            · rw [if_neg c4] at h3
              cases hm : markL (b :: d) with
              | none => rw [hm] at h3; injection h3 with h3; omega
              | some m => rw [hm] at h3; injection h3 with h3; omega
    · rw [hd] at he
      injection he with e1 e2
      subst e1 e2
      have h4 := nextL_mark1 41 (.inr (.inl rfl)) []
      rw [h4] at h3
      rw [← h3]
      exact nextL_mark1 41 (.inr (.inl rfl)) (41 :: r)
theorem tokL_paren (t : TokT) (h : rightT t = true) (he : endTok t = true) (r : List UInt8) : tokL (t.f1.data.toList ++ 41 :: r) = (tokL (41 :: r)).map (t :: ·) := by
  obtain ⟨h1, h2, h3⟩ := nextL_paren t h he r
  cases hd : t.f1.data.toList with
  | nil => exact absurd hd h1
  | cons b d =>
    rw [hd] at h3
    rw [List.cons_append] at h3 ⊢
    rw [tokL_cons, h3, if_pos rfl, if_pos h2, ← List.cons_append]
    simp only
    rw [List.drop_left]
    congr 1
    funext x
    congr 1
    obtain ⟨f0, f1, f2⟩ := t
    simp only at hd ⊢
    rw [← hd, B_of]
theorem tokL_print_paren : ∀ (l : List TokT), l.all rightT = true → (∀ x, l.getLast? = some x → endTok x = true) → ∀ r, tokL (printL l ++ 41 :: r) = (tokL (41 :: r)).map (l ++ ·)
  | [], _, _, r => by show tokL (41 :: r) = _; cases tokL (41 :: r) <;> rfl
  | [t], h, he, r => by
    simp only [List.all_cons, Bool.and_eq_true] at h
    show tokL (t.f1.data.toList ++ 41 :: r) = _
    rw [tokL_paren t h.1 (he t rfl) r]; rfl
  | t :: u :: l, h, he, r => by
    have h0 := h
    rw [List.all_cons, Bool.and_eq_true] at h
    have ih := tokL_print_paren (u :: l) h.2 (fun x hx => he x (by rw [List.getLast?_cons_cons]; exact hx)) r
    show tokL ((t.f1.data.toList ++ 32 :: printL (u :: l)) ++ 41 :: r) = _
    rw [List.append_assoc, List.cons_append, tokL_right t h.1 _ (.inr ⟨32, _, rfl, .inl rfl⟩), tokL_blank 32 (.inl rfl), ih]
    cases tokL (41 :: r) <;> rfl
theorem in_end {t : Tm} (h : ∀ x, (toksT t).getLast? = some x → endTok x = true) : ∀ x, (inT t).getLast? = some x → endTok x = true := by
  unfold inT withinT
  split
  · exact h
  · intro x hx
    rw [List.getLast?_concat] at hx
    injection hx with hx
    subst hx; rfl
theorem last_app {a b : List TokT} (hb : b ≠ []) (h : ∀ x, b.getLast? = some x → endTok x = true) : ∀ x, (a ++ b).getLast? = some x → endTok x = true := by
  intro x hx
  rw [List.getLast?_append] at hx
  cases hl : b.getLast? with
  | none => exact absurd (List.getLast?_eq_none_iff.1 hl) hb
  | some y => rw [hl] at hx; injection hx with hx; subst hx; exact h y hl
theorem in_ne (t : Tm) (h : nodesT t = true) : inT t ≠ [] := by
  have := (back t h).head
  intro e
  rw [e] at this; cases this
theorem toks_end (t : Tm) (h : nodesT t = true) : ∀ x, (toksT t).getLast? = some x → endTok x = true := by
  have cons : ∀ (y : TokT) (b : List TokT), b ≠ [] → (∀ x, b.getLast? = some x → endTok x = true) → ∀ x, (y :: b).getLast? = some x → endTok x = true := fun y b hb h => last_app (a := [y]) hb h
  refine shown_ind (P := fun t => ∀ x, (toksT t).getLast? = some x → endTok x = true) ?_ ?_ ?_ ?_ ?_ ?_ ?_ ?_ ?_ ?_ ?_ ?_ ?_ t h
  · intro n _ _ x hx; injection hx with hx; subst hx; rfl
  · intro n _ x hx; injection hx with hx; subst hx; rfl
  · intro nm a _ na pa; exact last_app (a := [keyTok kFun, nameTok nm, markTok mArrow]) (in_ne a na) (in_end pa)
  · intro a b _ nb _ pb; exact last_app (in_ne b nb) (in_end pb)
  · intro nm a b _ _ nb _ pb; exact last_app (a := [keyTok kLet, nameTok nm, markTok mEq]) (by simp) (last_app (by simp) (cons (keyTok kIn) _ (in_ne b nb) (in_end pb)))
  · intro a b c _ _ nc _ _ pc; exact cons (keyTok kIf) _ (by simp) (last_app (by simp) (cons (keyTok kThen) _ (by simp) (last_app (by simp) (cons (keyTok kElse) _ (in_ne c nc) (in_end pc)))))
  · intro a b _ nb _ pb; exact cons (keyTok kWhile) _ (by simp) (last_app (by simp) (cons (keyTok kDo) _ (in_ne b nb) (in_end pb)))
  · intro a na pa; exact cons (keyTok kRaise) _ (in_ne a na) (in_end pa)
  · intro nm a b _ _ nb _ pb; exact cons (keyTok kTry) _ (by simp) (last_app (by simp) (last_app (a := [keyTok kWith, nameTok nm, markTok mArrow]) (in_ne b nb) (in_end pb)))
  · intro a na pa; exact cons (markTok mGet) _ (in_ne a na) (in_end pa)
  · intro a b _ nb _ pb; exact last_app (by simp) (cons (markTok mSet) _ (in_ne b nb) (in_end pb))
  · intro nm a b _ _ nb _ pb; exact last_app (by simp) (cons (markTok nm) _ (in_ne b nb) (in_end pb))
  · intro a b _ nb _ pb; exact last_app (by simp) (cons (markTok mSeq) _ (in_ne b nb) (in_end pb))
/-- A term in parentheses, without blanks. -/
def parenL (t : Tm) : List UInt8 := 40 :: (printL (toksT t) ++ [41])
def parenT (t : Tm) : List TokT := markTok mOpen :: toksT t ++ [markTok mClose]
theorem tokL_parenL (t : Tm) (h : nodesT t = true) (r : List UInt8) : tokL (parenL t ++ r) = (tokL r).map (parenT t ++ ·) := by
  have e : parenL t ++ r = 40 :: (printL (toksT t) ++ 41 :: r) := by simp [parenL]
  rw [e, tokL_mark1 40 (.inl rfl), tokL_print_paren _ (toks_right t h) (toks_end t h), tokL_mark1 41 (.inr (.inl rfl))]
  have e1 : B [41] = mClose := rfl
  have e2 : B [40] = mOpen := rfl
  rw [e1, e2]
  cases tokL r <;> simp [parenT]
end Go.Proofs.YtchekgnacodolaaGreatDoor.X

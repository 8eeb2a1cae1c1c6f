-- Joined by our own program (wip/tools/prune.py) out of the seat's texts, less what this claim doesn't name.
import Derived.Test.YtchekgnacodolaaGreatDoorProg
import Derived.Test.YtchekgnacodolaaGreatDoorJ4
import Derived.Test.YtchekgnacodolaaGreatDoorJ8
import Derived.Test.YtchekgnacodolaaGreatDoorJ13
section
namespace Go.Proofs.YtchekgnacodolaaGreatDoor.X
set_option linter.unusedSimpArgs false
set_option linter.unusedVariables false
abbrev Tm := S26
theorem Tm.ind {P : Tm → Prop} (h : ∀ a b c l, (∀ t ∈ l, P t) → P ⟨a, b, c, l⟩) (t : Tm) : P t :=
  S26.rec (motive_1 := P) (motive_2 := fun l => ∀ t ∈ l, P t) (fun a b c l ih => h a b c l ih) (fun _ hm => by cases hm)
    (fun x l ihx ihl t hm => (List.mem_cons.1 hm).elim (fun e => e ▸ ihx) (ihl t)) t
mutual
def sizeT : Tm → Nat
  | ⟨_, _, _, kids⟩ => 1 + sizesT kids
def sizesT : List Tm → Nat
  | [] => 0
  | t :: r => sizeT t + sizesT r
end
mutual
def depthT : Tm → Nat
  | ⟨_, _, _, kids⟩ => depthsT kids + 1
def depthsT : List Tm → Nat
  | [] => 0
  | t :: r => max (depthT t) (depthsT r)
end
mutual
def sameTm : Tm → Tm → Bool
  | ⟨a, b, c, l⟩, ⟨a', b', c', l'⟩ => a == a' && (b.toList == b'.toList && (c == c' && samesTm l l'))
def samesTm : List Tm → List Tm → Bool
  | [], [] => true
  | t :: r, t' :: r' => sameTm t t' && samesTm r r'
  | _, _ => false
end
theorem bytes_eq {a b : ByteArray} (h : a.toList = b.toList) : a = b := by
  rw [ByteArray.toList_eq, ByteArray.toList_eq] at h
  rw [← B_of a, ← B_of b, h]
theorem sameTm_iff : ∀ t u : Tm, sameTm t u = true ↔ t = u := by
  have key : ∀ t : Tm, ∀ u, sameTm t u = true ↔ t = u := by
    intro t
    induction t using Tm.ind with
    | h a b c l ih =>
      rintro ⟨a', b', c', l'⟩
      have hl : ∀ (l l' : List Tm), (∀ t ∈ l, ∀ u, sameTm t u = true ↔ t = u) → (samesTm l l' = true ↔ l = l') := by
        intro l
        induction l with
        | nil => intro l' _; cases l' <;> simp [samesTm]
        | cons t r ihr =>
          intro l' h
          cases l' with
          | nil => simp [samesTm]
          | cons t' r' =>
            rw [samesTm, Bool.and_eq_true, h t (by simp), ihr r' fun x hx => h x (by simp [hx])]
            simp
      rw [sameTm]
      simp only [Bool.and_eq_true, beq_iff_eq, hl l l' ih]
      constructor
      · rintro ⟨rfl, hb, rfl, rfl⟩
        rw [bytes_eq hb]
      · intro h
        injection h with h1 h2 h3 h4
        exact ⟨h1, by rw [h2], h3, h4⟩
  exact key
theorem sameTm_self (t : Tm) : sameTm t t = true := (sameTm_iff t t).2 rfl
def peekL (s : List TokT) : TokT := s.headD ⟨0, ⟨#[]⟩, 0⟩
def isL (s : List TokT) (m : ByteArray) : Bool := decide (3 ≤ (peekL s).f0) && ((peekL s).f1.data.toList == m.data.toList)
def beginsL (s : List TokT) : Bool := decide ((peekL s).f0 = 1) || (decide ((peekL s).f0 = 2) || (isL s ⟨#[40]⟩ || isL s ⟨#[33]⟩))
theorem isL_nil (m : ByteArray) : isL [] m = false := by simp [isL, peekL]
theorem beginsL_nil : beginsL [] = false := by simp [beginsL, isL_nil]; simp [peekL]
theorem isL_ne {s : List TokT} {m : ByteArray} (h : isL s m = true) : ∃ t r, s = t :: r := by
  cases s with
  | nil => rw [isL_nil] at h; cases h
  | cons t r => exact ⟨t, r, rfl⟩
theorem peek_ne {s : List TokT} (h : (peekL s).f0 ≠ 0) : ∃ t r, s = t :: r := by
  cases s with
  | nil => exact absurd rfl h
  | cons t r => exact ⟨t, r, rfl⟩
def boundL (s : List TokT) (m : ByteArray) : Option (ByteArray × List TokT) :=
  if (peekL s).f0 = 1 then if isL s.tail m = true then some ((peekL s).f1, s.tail.tail) else none else none
abbrev PR := Option (Option (Tm × List TokT))
def PR.then_ (r : PR) (f : Tm → List TokT → PR) : PR := match r with
  | none => none
  | some none => some none
  | some (some (t, s)) => f t s
def PR.key (r : PR) (m : ByteArray) (f : Tm → List TokT → PR) : PR := r.then_ fun t s => if isL s m = true then f t s.tail else some none
def PR.name (o : Option (ByteArray × List TokT)) (f : ByteArray → List TokT → PR) : PR := match o with
  | none => some none
  | some (n, s) => f n s
def PR.ret (t : Tm) (s : List TokT) : PR := some (some (t, s))
abbrev noName : ByteArray := ⟨#[]⟩
def tm (k : Int) (nm : ByteArray) (kids : List Tm) : Tm := ⟨k, nm, 0, kids⟩
def opWords : List ByteArray := [⟨#[43]⟩, ⟨#[45]⟩, ⟨#[42]⟩, ⟨#[60]⟩, ⟨#[61]⟩]
def kFun : ByteArray := ⟨#[102, 117, 110]⟩
def kLet : ByteArray := ⟨#[108, 101, 116]⟩
def kIn : ByteArray := ⟨#[105, 110]⟩
def kIf : ByteArray := ⟨#[105, 102]⟩
def kThen : ByteArray := ⟨#[116, 104, 101, 110]⟩
def kElse : ByteArray := ⟨#[101, 108, 115, 101]⟩
def kWhile : ByteArray := ⟨#[119, 104, 105, 108, 101]⟩
def kDo : ByteArray := ⟨#[100, 111]⟩
def kRaise : ByteArray := ⟨#[114, 97, 105, 115, 101]⟩
def kTry : ByteArray := ⟨#[116, 114, 121]⟩
def kWith : ByteArray := ⟨#[119, 105, 116, 104]⟩
def mArrow : ByteArray := ⟨#[61, 62]⟩
def mSet : ByteArray := ⟨#[58, 61]⟩
def mOpen : ByteArray := ⟨#[40]⟩
def mClose : ByteArray := ⟨#[41]⟩
def mSeq : ByteArray := ⟨#[59]⟩
def mEq : ByteArray := ⟨#[61]⟩
def mGet : ByteArray := ⟨#[33]⟩
inductive Mode where
  | part
  | apps (t : Tm)
  | parts
  | plain
  | one
  | all
def run : Nat → Mode → List TokT → PR
  | 0, _, _ => none
  | k + 1, .part, s =>
    if isL s mGet = true then (run k .part s.tail).then_ fun t s => PR.ret (tm 10 noName [t]) s
    else if isL s mOpen = true then (run k .all s.tail).key mClose PR.ret
    else if (peekL s).f0 = 1 then PR.ret (tm 2 (peekL s).f1 []) s.tail
    else if (peekL s).f0 = 2 then PR.ret ⟨1, noName, (peekL s).f2, []⟩ s.tail
    else some none
  | k + 1, .apps t, s => if beginsL s = true then (run k .part s).then_ fun u s => run k (.apps (tm 4 noName [t, u])) s else PR.ret t s
  | k + 1, .parts, s => (run k .part s).then_ fun t s => run k (.apps t) s
  | k + 1, .plain, s => (run k .parts s).then_ fun t s =>
    if isL s mSet = true then (run k .one s.tail).then_ fun u s => PR.ret (tm 11 noName [t, u]) s
    else match opWords.find? (isL s) with
      | some o => (run k .parts s.tail).then_ fun u s => PR.ret (tm 12 o [t, u]) s
      | none => PR.ret t s
  | k + 1, .one, s =>
    if isL s kFun = true then PR.name (boundL s.tail mArrow) fun n s => (run k .all s).then_ fun x s => PR.ret (tm 3 n [x]) s
    else if isL s kLet = true then PR.name (boundL s.tail mEq) fun n s => (run k .all s).key kIn fun x s => (run k .all s).then_ fun y s => PR.ret (tm 5 n [x, y]) s
    else if isL s kIf = true then (run k .all s.tail).key kThen fun c s => (run k .all s).key kElse fun x s => (run k .all s).then_ fun y s => PR.ret (tm 6 noName [c, x, y]) s
    else if isL s kWhile = true then (run k .all s.tail).key kDo fun c s => (run k .all s).then_ fun x s => PR.ret (tm 7 noName [c, x]) s
    else if isL s kRaise = true then (run k .one s.tail).then_ fun x s => PR.ret (tm 8 noName [x]) s
    else if isL s kTry = true then (run k .all s.tail).key kWith fun x s => PR.name (boundL s mArrow) fun n s => (run k .all s).then_ fun y s => PR.ret (tm 9 n [x, y]) s
    else run k .plain s
  | k + 1, .all, s => (run k .one s).then_ fun t s => if isL s mSeq = true then (run k .all s.tail).then_ fun u s => PR.ret (tm 13 noName [t, u]) s else PR.ret t s
theorem PR.then_mono {a a' : PR} {f f' : Tm → List TokT → PR} (h : ∀ r, a = some r → a' = some r) (hf : ∀ t s r, f t s = some r → f' t s = some r) : ∀ r, a.then_ f = some r → a'.then_ f' = some r := by
  intro r hr
  cases a with
  | none => cases hr
  | some x =>
    rw [h x rfl]
    cases x with
    | none => exact hr
    | some p => exact hf _ _ _ hr
theorem PR.name_mono {o : Option (ByteArray × List TokT)} {f f' : ByteArray → List TokT → PR} (hf : ∀ t s r, f t s = some r → f' t s = some r) : ∀ r, PR.name o f = some r → PR.name o f' = some r := by
  intro r hr
  cases o with
  | none => exact hr
  | some x => exact hf _ _ _ hr
theorem PR.ite_mono {c : Prop} [Decidable c] {a a' b b' : PR} (h : ∀ r, a = some r → a' = some r) (k : ∀ r, b = some r → b' = some r) : ∀ r, (if c then a else b) = some r → (if c then a' else b') = some r := by
  intro r hr
  split
  · rename_i hc; rw [if_pos hc] at hr; exact h r hr
  · rename_i hc; rw [if_neg hc] at hr; exact k r hr
theorem run_mono : ∀ k m s r, run k m s = some r → run (k + 1) m s = some r
  | 0, _, _, _, h => by cases h
  | k + 1, m, s, r, h => by
    have ih := run_mono k
    have same : ∀ (a : PR), ∀ r, a = some r → a = some r := fun _ _ h => h
    revert r
    cases m with
    | part =>
      show ∀ r, _ → _
      exact PR.ite_mono (PR.then_mono (ih _ _) fun _ _ => same _) (PR.ite_mono (PR.then_mono (ih _ _) fun _ _ => same _) (same _))
    | apps t => exact PR.ite_mono (PR.then_mono (ih _ _) fun _ _ => ih _ _) (same _)
    | parts => exact PR.then_mono (ih _ _) fun _ _ => ih _ _
    | plain =>
      refine PR.then_mono (ih _ _) fun t s => PR.ite_mono (PR.then_mono (ih _ _) fun _ _ => same _) ?_
      cases opWords.find? (isL s) with
      | none => exact same _
      | some o => exact PR.then_mono (ih _ _) fun _ _ => same _
    | one =>
      refine PR.ite_mono (PR.name_mono fun _ _ => PR.then_mono (ih _ _) fun _ _ => same _) (PR.ite_mono (PR.name_mono fun _ _ => PR.then_mono (ih _ _) fun _ _ => PR.ite_mono (PR.then_mono (ih _ _) fun _ _ => same _) (same _))
        (PR.ite_mono (PR.then_mono (ih _ _) fun _ _ => PR.ite_mono (PR.then_mono (ih _ _) fun _ _ => PR.ite_mono (PR.then_mono (ih _ _) fun _ _ => same _) (same _)) (same _))
        (PR.ite_mono (PR.then_mono (ih _ _) fun _ _ => PR.ite_mono (PR.then_mono (ih _ _) fun _ _ => same _) (same _))
        (PR.ite_mono (PR.then_mono (ih _ _) fun _ _ => same _)
        (PR.ite_mono (PR.then_mono (ih _ _) fun _ _ => PR.ite_mono (PR.name_mono fun _ _ => PR.then_mono (ih _ _) fun _ _ => same _) (same _)) (ih _ _))))))
    | all => exact PR.then_mono (ih _ _) fun _ _ => PR.ite_mono (PR.then_mono (ih _ _) fun _ _ => same _) (same _)
theorem run_more {k m s r} (h : run k m s = some r) : ∀ j, run (k + j) m s = some r
  | 0 => h
  | j + 1 => run_mono _ _ _ _ (run_more h j)
theorem run_le {k k' m s r} (h : run k m s = some r) (hk : k ≤ k') : run k' m s = some r := by
  have := run_more h (k' - k)
  rwa [Nat.add_sub_cancel' hk] at this
def Mode.rank : Mode → Nat
  | .part => 1
  | .apps _ => 2
  | .parts => 2
  | .plain => 3
  | .one => 4
  | .all => 5
def Went (d : Nat) (s : List TokT) (r : Option (Tm × List TokT)) : Prop := ∀ t s', r = some (t, s') → s' <:+ s ∧ s'.length + d ≤ s.length
def Ends (d : Nat) (s : List TokT) (a : PR) : Prop := ∃ r, a = some r ∧ Went d s r
theorem Ends.fail (d : Nat) (s : List TokT) : Ends d s (some none) := ⟨none, rfl, fun _ _ h => by cases h⟩
theorem Ends.ret {d : Nat} {s s' : List TokT} (t : Tm) (h : s' <:+ s) (hd : s'.length + d ≤ s.length) : Ends d s (PR.ret t s') :=
  ⟨_, rfl, fun _ _ e => by injection e with e; injection e with _ e; subst e; exact ⟨h, hd⟩⟩
theorem Ends.then_ {d d' : Nat} {s s0 : List TokT} {a : PR} {f : Tm → List TokT → PR} (h : Ends d s a) (hf : ∀ t s', s' <:+ s → s'.length + d ≤ s.length → Ends d' s0 (f t s')) : Ends d' s0 (a.then_ f) := by
  obtain ⟨r, rfl, hw⟩ := h
  cases r with
  | none => exact Ends.fail _ _
  | some p => exact hf p.1 p.2 (hw _ _ rfl).1 (hw _ _ rfl).2
theorem Ends.key {d d' : Nat} {s s0 : List TokT} {a : PR} {m : ByteArray} {f : Tm → List TokT → PR} (h : Ends d s a) (hf : ∀ t s', s' <:+ s → s'.length + (d + 1) ≤ s.length → Ends d' s0 (f t s')) : Ends d' s0 (a.key m f) :=
  h.then_ fun t s' h1 h2 => by
    split
    · rename_i hm
      obtain ⟨x, q, rfl⟩ := isL_ne hm
      exact hf t q (List.IsSuffix.trans (List.suffix_cons x q) h1) (by simp at h2; omega)
    · exact Ends.fail _ _
theorem Ends.name {d' : Nat} {s s0 : List TokT} {m : ByteArray} {f : ByteArray → List TokT → PR} (hf : ∀ n s', s' <:+ s → s'.length + 2 ≤ s.length → Ends d' s0 (f n s')) : Ends d' s0 (PR.name (boundL s m) f) := by
  unfold boundL
  split
  · rename_i h1
    obtain ⟨x, q, rfl⟩ := peek_ne (s := s) (by rw [h1]; decide)
    split
    · rename_i h2
      obtain ⟨y, q2, hq⟩ := isL_ne h2
      simp only [List.tail_cons] at hq
      subst hq
      exact hf _ q2 (List.IsSuffix.trans (List.suffix_cons y q2) (List.suffix_cons x _)) (by simp)
    · exact Ends.fail _ _
  · exact Ends.fail _ _
theorem Ends.ite {d : Nat} {s : List TokT} {c : Prop} [Decidable c] {a b : PR} (h : c → Ends d s a) (k : ¬ c → Ends d s b) : Ends d s (if c then a else b) := by
  split
  · exact h ‹_›
  · exact k ‹_›
theorem Ends.suffix {d : Nat} {s s0 : List TokT} {a : PR} {d' : Nat} (h : Ends d s a) (hs : s <:+ s0) (hd : s.length + d' ≤ s0.length + d) : Ends d' s0 a := by
  obtain ⟨r, rfl, hw⟩ := h
  refine ⟨r, rfl, fun t s' e => ?_⟩
  have := hw t s' e
  exact ⟨List.IsSuffix.trans this.1 hs, by omega⟩
def Mode.min : Mode → Nat
  | .apps _ => 0
  | _ => 1
theorem run_fin : ∀ k m s, m.rank + 8 * s.length ≤ k → Ends m.min s (run k m s)
  | 0, m, s, h => by cases m <;> simp [Mode.rank] at h
  | k + 1, m, s, h => by
    have ih := run_fin k
    have part_ : ∀ s', 1 + 8 * s'.length ≤ k → Ends 1 s' (run k .part s') := fun s' h => ih .part s' h
    have parts_ : ∀ s', 2 + 8 * s'.length ≤ k → Ends 1 s' (run k .parts s') := fun s' h => ih .parts s' h
    have plain_ : ∀ s', 3 + 8 * s'.length ≤ k → Ends 1 s' (run k .plain s') := fun s' h => ih .plain s' h
    have one_ : ∀ s', 4 + 8 * s'.length ≤ k → Ends 1 s' (run k .one s') := fun s' h => ih .one s' h
    have all_ : ∀ s', 5 + 8 * s'.length ≤ k → Ends 1 s' (run k .all s') := fun s' h => ih .all s' h
    have tl : ∀ (s : List TokT) m, isL s m = true → s.tail <:+ s ∧ s.tail.length + 1 = s.length := fun s m h => by
      obtain ⟨x, q, rfl⟩ := isL_ne h
      exact ⟨List.suffix_cons x q, by simp⟩
    have tp : ∀ (s : List TokT), (peekL s).f0 ≠ 0 → s.tail <:+ s ∧ s.tail.length + 1 = s.length := fun s h => by
      obtain ⟨x, q, rfl⟩ := peek_ne h
      exact ⟨List.suffix_cons x q, by simp⟩
    cases m with
    | part =>
      simp only [Mode.rank] at h
      refine Ends.ite (fun c => ?_) fun _ => Ends.ite (fun c => ?_) fun _ => Ends.ite (fun c => ?_) fun _ => Ends.ite (fun c => ?_) fun _ => Ends.fail _ _
      · obtain ⟨h1, h2⟩ := tl s _ c
        exact (part_ _ (by omega)).then_ fun t s' h3 h4 => Ends.ret _ (h3.trans h1) (by simp only [Mode.min]; omega)
      · obtain ⟨h1, h2⟩ := tl s _ c
        exact (all_ _ (by omega)).key fun t s' h3 h4 => Ends.ret _ (h3.trans h1) (by simp only [Mode.min]; omega)
      · obtain ⟨h1, h2⟩ := tp s (by rw [c]; decide)
        exact Ends.ret _ h1 (by simp only [Mode.min]; omega)
      · obtain ⟨h1, h2⟩ := tp s (by rw [c]; decide)
        exact Ends.ret _ h1 (by simp only [Mode.min]; omega)
    | apps t =>
      simp only [Mode.rank] at h
      refine Ends.ite (fun c => ?_) fun _ => Ends.ret _ (List.suffix_refl _) (Nat.le_refl _)
      exact (part_ s (by omega)).then_ fun u s' h3 h4 => Ends.suffix (ih (.apps _) s' (by simp only [Mode.rank]; omega)) h3 (by simp only [Mode.min]; omega)
    | parts =>
      simp only [Mode.rank] at h
      exact (part_ s (by omega)).then_ fun u s' h3 h4 => Ends.suffix (ih (.apps _) s' (by simp only [Mode.rank]; omega)) h3 (by simp only [Mode.min]; omega)
    | plain =>
      simp only [Mode.rank] at h
      refine (parts_ s (by omega)).then_ fun t s' h3 h4 => Ends.ite (fun c => ?_) fun _ => ?_
      · obtain ⟨h1, h2⟩ := tl s' _ c
        exact (one_ _ (by omega)).then_ fun u s2 h5 h6 => Ends.ret _ (h5.trans (h1.trans h3)) (by simp only [Mode.min]; omega)
      · cases hf : opWords.find? (isL s') with
        | none => exact Ends.ret _ h3 (by simp only [Mode.min]; omega)
        | some o =>
          obtain ⟨h1, h2⟩ := tl s' _ (List.find?_some hf)
          exact (parts_ _ (by omega)).then_ fun u s2 h5 h6 => Ends.ret _ (h5.trans (h1.trans h3)) (by simp only [Mode.min]; omega)
    | one =>
      simp only [Mode.rank] at h
      refine Ends.ite (fun c => ?_) fun _ => Ends.ite (fun c => ?_) fun _ => Ends.ite (fun c => ?_) fun _ => Ends.ite (fun c => ?_) fun _ => Ends.ite (fun c => ?_) fun _ => Ends.ite (fun c => ?_) fun _ => plain_ s (by omega)
      · obtain ⟨h1, h2⟩ := tl s _ c
        exact Ends.name fun n s' h3 h4 => (all_ s' (by omega)).then_ fun x s2 h5 h6 => Ends.ret _ (h5.trans (h3.trans h1)) (by simp only [Mode.min]; omega)
      · obtain ⟨h1, h2⟩ := tl s _ c
        exact Ends.name fun n s' h3 h4 => (all_ s' (by omega)).key fun x s2 h5 h6 => (all_ s2 (by omega)).then_ fun y s3 h7 h8 => Ends.ret _ (h7.trans (h5.trans (h3.trans h1))) (by simp only [Mode.min]; omega)
      · obtain ⟨h1, h2⟩ := tl s _ c
        exact (all_ _ (by omega)).key fun c' s' h3 h4 => (all_ s' (by omega)).key fun x s2 h5 h6 => (all_ s2 (by omega)).then_ fun y s3 h7 h8 => Ends.ret _ (h7.trans (h5.trans (h3.trans h1))) (by simp only [Mode.min]; omega)
      · obtain ⟨h1, h2⟩ := tl s _ c
        exact (all_ _ (by omega)).key fun c' s' h3 h4 => (all_ s' (by omega)).then_ fun x s2 h5 h6 => Ends.ret _ (h5.trans (h3.trans h1)) (by simp only [Mode.min]; omega)
      · obtain ⟨h1, h2⟩ := tl s _ c
        exact (one_ _ (by omega)).then_ fun c' s' h3 h4 => Ends.ret _ (h3.trans h1) (by simp only [Mode.min]; omega)
      · obtain ⟨h1, h2⟩ := tl s _ c
        exact (all_ _ (by omega)).key fun c' s' h3 h4 => Ends.name fun n s2 h5 h6 => (all_ s2 (by omega)).then_ fun y s3 h7 h8 => Ends.ret _ (h7.trans (h5.trans (h3.trans h1))) (by simp only [Mode.min]; omega)
    | all =>
      simp only [Mode.rank] at h
      refine (one_ s (by omega)).then_ fun t s' h3 h4 => Ends.ite (fun c => ?_) fun _ => Ends.ret _ h3 (by simp only [Mode.min]; omega)
      obtain ⟨h1, h2⟩ := tl s' _ c
      exact (all_ _ (by omega)).then_ fun u s2 h5 h6 => Ends.ret _ (h5.trans (h1.trans h3)) (by simp only [Mode.min]; omega)
def parseL (s : List TokT) : Option (Tm × List TokT) := (run (8 * s.length + 5) .all s).getD none
theorem parseL_run (s : List TokT) : run (8 * s.length + 5) .all s = some (parseL s) := by
  obtain ⟨r, h, _⟩ := run_fin (8 * s.length + 5) .all s (by simp only [Mode.rank]; omega)
  rw [parseL, h]; rfl
theorem parseL_of {k : Nat} {s : List TokT} {r : Option (Tm × List TokT)} (h : run k .all s = some r) : parseL s = r := by
  have h1 := parseL_run s
  have h2 := run_le h (Nat.le_max_left k (8 * s.length + 5))
  have h3 := run_le h1 (Nat.le_max_right k (8 * s.length + 5))
  rw [h2] at h3
  exact (Option.some.inj h3).symm
def nestStep (p : Int × Int) (t : TokT) : Int × Int :=
  if t.f0 ≠ 4 then p else
    let n := if t.f1.data.toList = [40] then p.1 + 1 else if t.f1.data.toList = [41] then p.1 - 1 else p.1
    (n, max p.2 n)
def nestL (l : List TokT) : Int := (l.foldl nestStep (0, 0)).2
def zTm : Tm := ⟨0, noName, 0, []⟩
def toksR (l : List TokT) : Tm × Int :=
  if l.all rightT = false then (zTm, 2)
  else if 200 < nestL l then (zTm, 1)
  else match parseL l with
    | none => (zTm, 2)
    | some (t, s) => if s ≠ [] then (zTm, 2) else if 200 < depthT t ∨ 10000 < sizeT t then (zTm, 1) else (t, 0)
def parseR (s : List UInt8) : Tm × Int := if (lexR s).2 ≠ 0 then (zTm, (lexR s).2) else toksR (lexR s).1
end Go.Proofs.YtchekgnacodolaaGreatDoor.X
end
section
namespace Go.Proofs.YtchekgnacodolaaGreatDoor.X
open Go.RowKit Go.Proofs.YtchekgnacodolaaGreatDoorW.PrintWords
set_option linter.unusedSimpArgs false
set_option linter.unusedVariables false
theorem cell_lt {w : World} {a : Addr} {u : Value} (h : w.cell? a = some u) : a.block < w.heap.size := World.block_lt_of_cell? w a h
abbrev tokV (t : TokT) : Value := .agg #[.int .i64 t.f0, .string t.f1, .int .i64 t.f2]
structure Rd (g : Nat) (A : Option Addr) (c : Nat) (E : Value) (p s : List TokT) (w : World) : Prop where
  blk : w.heap[g]? = some (.cells #[.slice A (p ++ s).length c, .int .i64 (p.length : Int)] 144 (0, 0))
  rd : Reads w A c (p ++ s)
  far : 0 < (p ++ s).length → ∀ ad, A = some ad → ad.block ≠ g
  err : w.cell? ⟨0, 0, none⟩ = some E
  errg : 0 ≠ g
  ei : ∃ t v, E = .iface t v
section
variable {w w1 : World} {g : Nat} {A : Option Addr} {c : Nat} {E : Value} {p s : List TokT}
theorem Rd.lt (h : Rd g A c E p s w) : g < w.heap.size := blk_lt h.blk
theorem Rd.c0 (h : Rd g A c E p s w) : w.cell? ⟨g, 0, none⟩ = some (.slice A (p ++ s).length c) := by rw [blk_cell h.blk]; rfl
theorem Rd.c1 (h : Rd g A c E p s w) : w.cell? ⟨g, 1, none⟩ = some (.int .i64 (p.length : Int)) := by rw [blk_cell h.blk]; rfl
theorem Rd.fz (h : Rd g A c E p s w) (j : Nat) : w.frozen? ⟨g, j, none⟩ = false := blk_frozen h.blk j
theorem Rd.below (h : Rd g A c E p s w) (hb : Below w.heap.size w w1) : Rd g A c E p s w1 :=
  ⟨blk_below h.blk hb, h.rd.below hb, h.far, pw_cell_below hb h.err, h.errg, h.ei⟩
theorem Reads.past {l : List TokT} (h : Reads w A c l) (hg : 0 < l.length → ∀ ad, A = some ad → ad.block ≠ g) (hp : Past g w w1) : Reads w1 A c l := by
  refine ⟨⟨h.1.1, h.1.2.1, fun h0 => ?_⟩, h.2⟩
  obtain ⟨ad, hA, hc⟩ := h.1.2.2 h0
  refine ⟨ad, hA, fun j p hj => ?_⟩
  obtain ⟨cs, hl, hk, hcell⟩ := hc j p hj
  refine ⟨cs, hl, ?_, fun i u hi => ?_⟩
  · have := k106_open hk
    rw [this]; exact k106_mk w1 p
  · have h1 := hcell i u hi
    have hlt := cell_lt h1
    rw [World.cell?_of_block (w := w) (by rw [add_block] at hlt ⊢; exact hp.block _ hlt (hg h0 ad hA))]
    exact h1
theorem Rd.step {x : TokT} (h : Rd g A c E p (x :: s) w) : Rd g A c E (p ++ [x]) s (w.setCell ⟨g, 1, none⟩ (.int .i64 ((p.length : Int) + 1))) := by
  have e : p ++ [x] ++ s = p ++ x :: s := by simp
  have hp : Past g w (w.setCell ⟨g, 1, none⟩ (.int .i64 ((p.length : Int) + 1))) := (Past.refl g w).set 1 _
  refine ⟨?_, by rw [e]; exact h.rd.past h.far hp, by rw [e]; exact h.far, ?_, h.errg, h.ei⟩
  · have := blk_set h.blk 1 (.int .i64 ((p.length : Int) + 1))
    rw [this, e]
    have hl : (((p ++ [x]).length : Nat) : Int) = (p.length : Int) + 1 := by rw [List.length_append]; rfl
    rw [hl]; rfl
  · have hlt := cell_lt h.err
    rw [World.cell?_of_block (w := w) (hp.block _ hlt h.errg)]
    exact h.err
theorem Rd.len (h : Rd g A c E p s w) : (p ++ s).length ≤ 9223372036854775807 := h.rd.1.2.1
theorem Rd.get {x : TokT} (h : Rd g A c E p (x :: s) w) : ∃ ad, A = some ad ∧ w.cell? (ad.add (p.length * 3)) = some (.int .i64 x.f0) ∧ w.cell? ⟨(ad.add (p.length * 3)).block, (ad.add (p.length * 3)).off + 1, none⟩ = some (.string x.f1) ∧ w.cell? ⟨(ad.add (p.length * 3)).block, (ad.add (p.length * 3)).off + 2, none⟩ = some (.int .i64 x.f2) := by
  obtain ⟨ad, e, h0, h1, h2⟩ := at_T106 h.rd.1 (p.length : Int) (by omega) (by rw [List.length_append, List.length_cons]; omega)
  have hr : rd_T106 (p ++ x :: s) (p.length : Int) = x := by
    unfold rd_T106
    rw [Int.toNat_natCast, List.getD_eq_getElem?_getD, List.getElem?_append_right (Nat.le_refl _), Nat.sub_self]; rfl
  rw [hr] at h0 h1 h2
  rw [Int.toNat_natCast] at h0 h1 h2
  exact ⟨ad, e, h0, h1, h2⟩
end
def Took (g : Nat) (A : Option Addr) (c : Nat) (E : Value) (p s : List TokT) (w : World) (b : Bool) (e : Ending) (w' : World) : Prop :=
  e = .returned (.bool b) ∧ Past g w w' ∧ (b = false → Rd g A c E p s w') ∧ (b = true → ∃ x r, s = x :: r ∧ Rd g A c E (p ++ [x]) r w')
def TmV (base : Nat) (w : World) (t : Tm) (v : Value) : Prop := ∃ A c, v = .agg #[.int .i64 t.f0, .string t.f1, .int .i64 t.f2, .slice A t.f3.length c] ∧ t.f3.length ≤ c ∧ ∀ w2, Same base w w2 → Kd.C k26 w2 A t.f3.length t.f3
theorem TmV.same {base : Nat} {w w1 : World} {t : Tm} {v : Value} (h : TmV base w t v) (hp : Same base w w1) : TmV base w1 t v := by
  obtain ⟨A, c, rfl, hl, hC⟩ := h
  exact ⟨A, c, rfl, hl, fun w2 h2 => hC w2 (hp.trans h2)⟩
theorem TmV.mono {base base' : Nat} {w : World} {t : Tm} {v : Value} (h : TmV base w t v) (hb : base' ≤ base) : TmV base' w t v := by
  obtain ⟨A, c, rfl, hl, hC⟩ := h
  exact ⟨A, c, rfl, hl, fun w2 h2 => hC w2 (h2.mono hb)⟩
theorem C_nil (w : World) : Kd.C k26 w none 0 [] := ⟨rfl, by decide, fun h => absurd h (by decide)⟩
theorem C_lit {w : World} {b : Nat} {ts : List Tm} {cs : Array Value} {T : TypeId} {fr : Nat × Nat} (hb : w.heap[b]? = some (.cells cs T fr)) (hr : Reps (k26.K w) 4 ts cs.toList) (hn : ts.length ≤ 9223372036854775807) : Kd.C k26 w (some ⟨b, 0, none⟩) ts.length ts := by
  refine ⟨rfl, hn, fun _ => ⟨⟨b, 0, none⟩, rfl, fun j p hj => ⟨(cs.toList.drop (j * 4)).take 4, ?_, hr.2 j p hj, fun i u hi => ?_⟩⟩⟩
  · exact k26.K_len (hr.2 j p hj)
  · rw [List.getElem?_take] at hi
    split at hi
    · rw [List.getElem?_drop] at hi
      show w.cell? ((⟨b, 0, none⟩ : Addr).add (j * 4 + i)) = _
      rw [add_plain, World.cell?, hb]
      simpa using hi
    · cases hi
theorem blk_past {g b : Nat} {w w1 : World} {o : Obj} (h : w.heap[b]? = some o) (hp : Past g w w1) (hg : b ≠ g) : w1.heap[b]? = some o := (hp.block b (blk_lt h) hg).trans h
theorem blk_same {base b : Nat} {w w1 : World} {o : Obj} (h : w.heap[b]? = some o) (hp : Same base w w1) (hg : base ≤ b) : w1.heap[b]? = some o := (hp.block b hg (blk_lt h)).trans h
theorem TmV.K {base : Nat} {w w2 : World} {t : Tm} {A : Option Addr} {c : Nat} (hl : t.f3.length ≤ c) (hC : ∀ w2, Same base w w2 → Kd.C k26 w2 A t.f3.length t.f3) (hp : Same base w w2) : k26.K w2 t [.int .i64 t.f0, .string t.f1, .int .i64 t.f2, .slice A t.f3.length c] := k26_mk w2 t hl (hC w2 hp)
theorem TmV.leaf (base : Nat) (w : World) (k : Int) (nm : ByteArray) (n : Int) : TmV base w ⟨k, nm, n, []⟩ (.agg #[.int .i64 k, .string nm, .int .i64 n, .slice none 0 0]) := ⟨none, 0, rfl, Nat.le_refl _, fun w2 _ => C_nil w2⟩
theorem TmV.kids1 {base b : Nat} {w : World} {a : Tm} {A : Option Addr} {c : Nat} {fr : Nat × Nat} (k : Int) (nm : ByteArray) (h0 : TmV base w a (.agg #[.int .i64 a.f0, .string a.f1, .int .i64 a.f2, .slice A a.f3.length c]))
    (hb : w.heap[b]? = some (.cells #[.int .i64 a.f0, .string a.f1, .int .i64 a.f2, .slice A a.f3.length c] 26 fr)) (hg : base ≤ b) :
    TmV base w (tm k nm [a]) (.agg #[.int .i64 k, .string nm, .int .i64 0, .slice (some ⟨b, 0, none⟩) 1 1]) := by
  obtain ⟨_, _, e0, hl0, hC0⟩ := h0
  simp only [Value.agg.injEq, Array.mk.injEq, List.cons.injEq, Value.slice.injEq, true_and, and_true] at e0
  obtain ⟨rfl, rfl⟩ := e0
  exact ⟨_, 1, rfl, Nat.le_refl _, fun w2 hp => C_lit (blk_same hb hp hg) (Reps.c4 (TmV.K hl0 hC0 hp) (Reps.none _ _)) (by show (1 : Nat) ≤ _; decide)⟩
theorem TmV.kids2 {base b : Nat} {w : World} {a a' : Tm} {A A' : Option Addr} {c c' : Nat} {fr : Nat × Nat} (k : Int) (nm : ByteArray) (h0 : TmV base w a (.agg #[.int .i64 a.f0, .string a.f1, .int .i64 a.f2, .slice A a.f3.length c])) (h1 : TmV base w a' (.agg #[.int .i64 a'.f0, .string a'.f1, .int .i64 a'.f2, .slice A' a'.f3.length c']))
    (hb : w.heap[b]? = some (.cells #[.int .i64 a.f0, .string a.f1, .int .i64 a.f2, .slice A a.f3.length c, .int .i64 a'.f0, .string a'.f1, .int .i64 a'.f2, .slice A' a'.f3.length c'] 26 fr)) (hg : base ≤ b) :
    TmV base w (tm k nm [a, a']) (.agg #[.int .i64 k, .string nm, .int .i64 0, .slice (some ⟨b, 0, none⟩) 2 2]) := by
  obtain ⟨_, _, e0, hl0, hC0⟩ := h0
  obtain ⟨_, _, e1, hl1, hC1⟩ := h1
  simp only [Value.agg.injEq, Array.mk.injEq, List.cons.injEq, Value.slice.injEq, true_and, and_true] at e0 e1
  obtain ⟨rfl, rfl⟩ := e0
  obtain ⟨rfl, rfl⟩ := e1
  exact ⟨_, 2, rfl, Nat.le_refl _, fun w2 hp => C_lit (blk_same hb hp hg) (Reps.c4 (TmV.K hl0 hC0 hp) (Reps.c4 (TmV.K hl1 hC1 hp) (Reps.none _ _))) (by show (2 : Nat) ≤ _; decide)⟩
theorem TmV.kids3 {base b : Nat} {w : World} {a a' a2 : Tm} {A A' A2 : Option Addr} {c c' c2 : Nat} {fr : Nat × Nat} (k : Int) (nm : ByteArray) (h0 : TmV base w a (.agg #[.int .i64 a.f0, .string a.f1, .int .i64 a.f2, .slice A a.f3.length c])) (h1 : TmV base w a' (.agg #[.int .i64 a'.f0, .string a'.f1, .int .i64 a'.f2, .slice A' a'.f3.length c'])) (h2 : TmV base w a2 (.agg #[.int .i64 a2.f0, .string a2.f1, .int .i64 a2.f2, .slice A2 a2.f3.length c2]))
    (hb : w.heap[b]? = some (.cells #[.int .i64 a.f0, .string a.f1, .int .i64 a.f2, .slice A a.f3.length c, .int .i64 a'.f0, .string a'.f1, .int .i64 a'.f2, .slice A' a'.f3.length c', .int .i64 a2.f0, .string a2.f1, .int .i64 a2.f2, .slice A2 a2.f3.length c2] 26 fr)) (hg : base ≤ b) :
    TmV base w (tm k nm [a, a', a2]) (.agg #[.int .i64 k, .string nm, .int .i64 0, .slice (some ⟨b, 0, none⟩) 3 3]) := by
  obtain ⟨_, _, e0, hl0, hC0⟩ := h0
  obtain ⟨_, _, e1, hl1, hC1⟩ := h1
  obtain ⟨_, _, e2, hl2, hC2⟩ := h2
  simp only [Value.agg.injEq, Array.mk.injEq, List.cons.injEq, Value.slice.injEq, true_and, and_true] at e0 e1 e2
  obtain ⟨rfl, rfl⟩ := e0
  obtain ⟨rfl, rfl⟩ := e1
  obtain ⟨rfl, rfl⟩ := e2
  exact ⟨_, 3, rfl, Nat.le_refl _, fun w2 hp => C_lit (blk_same hb hp hg) (Reps.c4 (TmV.K hl0 hC0 hp) (Reps.c4 (TmV.K hl1 hC1 hp) (Reps.c4 (TmV.K hl2 hC2 hp) (Reps.none _ _)))) (by show (3 : Nat) ≤ _; decide)⟩
def Fails (g : Nat) (E : Value) (w : World) (e : Ending) (w' : World) : Prop :=
  Past g w w' ∧ ∃ b n, e = .panicked [{ v := .iface 140 (.pointer (some ⟨b, 0, none⟩)), recovered := false }] ∧ w'.heap[b]? = some (.cells #[.int .i64 n, E] 188 (0, 0))
def Out (g : Nat) (A : Option Addr) (c : Nat) (E : Value) (p s : List TokT) (w : World) (res : Option (Tm × List TokT)) (e : Ending) (w' : World) : Prop :=
  match res with
  | some (t, s') => Past g w w' ∧ ∃ v p', e = .returned v ∧ TmV w.heap.size w' t v ∧ p' ++ s' = p ++ s ∧ Rd g A c E p' s' w'
  | none => Fails g E w e w'
theorem Rd.old {g : Nat} {A : Option Addr} {c : Nat} {E : Value} {p s p0 s0 : List TokT} {w0 w w1 : World} (h0 : Rd g A c E p0 s0 w0) (hpp : p ++ s = p0 ++ s0) (h : Rd g A c E p s w) (hb : Below w0.heap.size w w1) : Rd g A c E p s w1 := by
  have hc : ∀ {a : Addr} {u : Value}, w.cell? a = some u → a.block < w0.heap.size → w1.cell? a = some u := fun {a u} hu hl => (hb.cell hl).trans hu
  refine ⟨(hb.block g h0.lt).trans h.blk, ⟨⟨h.rd.1.1, h.rd.1.2.1, fun hn => ?_⟩, h.rd.2⟩, h.far, hc h.err (cell_lt h0.err), h.errg, h.ei⟩
  obtain ⟨ad, hA, hcc⟩ := h.rd.1.2.2 hn
  refine ⟨ad, hA, fun j q hj => ?_⟩
  obtain ⟨cs, hl, hk, hcell⟩ := hcc j q hj
  have hk2 := k106_open hk
  refine ⟨cs, hl, by rw [hk2]; exact k106_mk w1 q, fun i u hi => hc (hcell i u hi) ?_⟩
  rw [add_block]
  obtain ⟨ad0, hA0, hcc0⟩ := h0.rd.1.2.2 (by rw [← hpp]; exact hn)
  rw [hA] at hA0
  injection hA0 with e0
  subst e0
  obtain ⟨cs0, hl0, hk0, hcell0⟩ := hcc0 j q (by rw [← hpp]; exact hj)
  have h00 := hcell0 0 _ (by rw [k106_open hk0]; rfl)
  have := cell_lt h00
  rwa [add_block] at this
theorem Past.belowN {g : Nat} {w0 w w1 : World} (h : Past g w0 w) (hb : Below w0.heap.size w w1) : Past g w0 w1 :=
  ⟨hb.os.trans h.os, hb.tape.trans h.tape, hb.output.trans h.output, Nat.le_trans h.size hb.size, fun k hk hg => (hb.block k hk).trans (h.block k hk hg)⟩
theorem Out.ret {g : Nat} {A : Option Addr} {c : Nat} {E : Value} {p s p' s' : List TokT} {w w3 w5 : World} {t : Tm} {v : Value} (h0 : Rd g A c E p s w) (hP : Past g w w3) (hb : Below w.heap.size w3 w5) (hpp : p' ++ s' = p ++ s) (hr : Rd g A c E p' s' w3) (hT : TmV w.heap.size w5 t v) : Out g A c E p s w (some (t, s')) (.returned v) w5 :=
  ⟨hP.belowN hb, v, p', rfl, hT, hpp, h0.old hpp hr hb⟩
end Go.Proofs.YtchekgnacodolaaGreatDoor.X
end

/- LexBack: what is printed of right tokens is told again; so with blanks, line feeds, and notes between. -/
import Derived.Test.YtcpknmffnglegaaDoorLawRight
import Derived.Test.YtcpknmffnglegaaDoorXchancellaw02LexBack
import Derived.OpenShut
namespace Go.Proofs.YtcpknmffnglegaaDoor.X
open Go.RowKit Go.Proofs.YtcpknmffnglegaaDoorW.PrintWords
set_option linter.unusedSimpArgs false
set_option linter.unusedVariables false

/-! ### tokens by bytes -/
def someTab : List TokT := [⟨1, ⟨#[120]⟩, 0⟩, ⟨1, ⟨#[76, 111, 49]⟩, 0⟩, ⟨2, ⟨#[48]⟩, 0⟩, ⟨2, ⟨#[50, 49, 52, 55, 52, 56, 51, 54, 52, 55]⟩, 2147483647⟩, ⟨2, ⟨#[49, 55]⟩, 17⟩, ⟨3, ⟨#[102, 117, 110]⟩, 0⟩, ⟨3, ⟨#[119, 104, 105, 108, 101]⟩, 0⟩, ⟨4, ⟨#[61]⟩, 0⟩, ⟨4, ⟨#[61, 62]⟩, 0⟩, ⟨4, ⟨#[58]⟩, 0⟩, ⟨4, ⟨#[58, 61]⟩, 0⟩, ⟨4, ⟨#[40]⟩, 0⟩, ⟨4, ⟨#[46]⟩, 0⟩, ⟨4, ⟨#[60]⟩, 0⟩]
def someT (x : Int) : TokT := rd_T41 someTab (Int.tmod x 14)
theorem someTab_ok : someTab.all (fun t => rightT t && decide (t.f1.size ≤ 10)) = true := by kernel_rfl
theorem someT_mem (x : Int) (h : 0 ≤ x) : someT x ∈ someTab := by
  have h1 : Int.tmod x 14 = x % 14 := Int.tmod_eq_emod_of_nonneg h
  unfold someT rd_T41
  have h2 : (Int.tmod x 14).toNat < someTab.length := by
    have : someTab.length = 14 := rfl
    omega
  rw [List.getD_eq_getElem?_getD, List.getElem?_eq_getElem h2]
  exact List.getElem_mem h2
theorem someT_ok (x : Int) (h : 0 ≤ x) : rightT (someT x) = true ∧ (someT x).f1.size ≤ 10 := by
  have := List.all_eq_true.1 someTab_ok _ (someT_mem x h)
  simpa using this
theorem some_loop (l : List Int) (hl : l.length ≤ 1000) (hw : ∀ x ∈ l, 0 ≤ x) (d : Nat) : ∀ (k i : Nat), i ≤ l.length → l.length - i = d → d < k →
    chancellaw02_some.l0 k l someTab ((l.take i).map someT) (i : Int) = some (l.map someT) := by
  induction d with
  | zero =>
    intro k i h1 h2 h3
    obtain ⟨k, rfl⟩ : ∃ m, k = m + 1 := ⟨k - 1, by omega⟩
    obtain rfl : i = l.length := by omega
    simp only [chancellaw02_some.l0]
    rw [if_neg (by omega), List.take_length]
  | succ d ih =>
    intro k i h1 h2 h3
    obtain ⟨k, rfl⟩ : ∃ m, k = m + 1 := ⟨k - 1, by omega⟩
    have hlt : i < l.length := by omega
    have hgo := ih k (i + 1) (by omega) (by omega) (by omega)
    have e1 : rd l (i : Int) = l[i] := by unfold rd; simp [List.getD_eq_getElem?_getD, List.getElem?_eq_getElem hlt]
    have h0 := hw l[i] (List.getElem_mem hlt)
    have h5 : Int.tmod l[i] 14 = l[i] % 14 := Int.tmod_eq_emod_of_nonneg h0
    have h6 : (someTab.length : Int) = 14 := rfl
    simp only [chancellaw02_some.l0]
    rw [e1, if_pos (by omega), if_pos (by omega), if_pos (by omega), if_pos (by omega), if_pos (by rw [List.length_map, List.length_take]; omega), wrap_id (by omega) (by omega)]
    rw [List.take_succ_eq_append_getElem hlt, List.map_append] at hgo
    exact hgo
theorem some_eq (l : List Int) (hl : l.length ≤ 1000) (hw : ∀ x ∈ l, 0 ≤ x) (k : Nat) (hk : l.length < k) : chancellaw02_some.f k l = some (l.map someT) := by
  exact some_loop l hl hw l.length k 0 (by omega) (by omega) hk

/-! ### a text without line feeds -/
def cleanL (l : List UInt8) : List UInt8 := l.filter (· != 10)
theorem clean_loop (l : List UInt8) (hl : l.length ≤ 1000) (d : Nat) : ∀ (k i : Nat), i ≤ l.length → l.length - i = d → d < k →
    chancellaw02_clean.l0 k (B l) (B (cleanL (l.take i))) (i : Int) = some (B (cleanL l)) := by
  induction d with
  | zero =>
    intro k i h1 h2 h3
    obtain ⟨k, rfl⟩ : ∃ m, k = m + 1 := ⟨k - 1, by omega⟩
    obtain rfl : i = l.length := by omega
    simp only [chancellaw02_clean.l0]
    rw [if_neg (by rw [B_size]; omega), List.take_length]
  | succ d ih =>
    intro k i h1 h2 h3
    obtain ⟨k, rfl⟩ : ∃ m, k = m + 1 := ⟨k - 1, by omega⟩
    have hlt : i < l.length := by omega
    have hgo := ih k (i + 1) (by omega) (by omega) (by omega)
    have hfl : (cleanL (l.take i)).length ≤ i := Nat.le_trans (List.length_filter_le _ _) (by rw [List.length_take]; omega)
    simp only [chancellaw02_clean.l0]
    rw [B_size, if_pos (by omega), if_pos (by omega), bt_B l i hlt, wrap_id (by omega) (by omega)]
    have hc : cleanL (l.take (i + 1)) = cleanL (l.take i) ++ (if l[i] = 10 then [] else [l[i]]) := by
      rw [List.take_succ_eq_append_getElem hlt]
      unfold cleanL
      rw [List.filter_append]
      congr 1
      by_cases h : l[i] = 10
      · rw [if_pos h]; simp [h]
      · rw [if_neg h]; simp [h]
    rw [hc] at hgo
    by_cases h : l[i] = 10
    · rw [if_pos h, List.append_nil] at hgo
      rw [if_pos (by rw [h]; rfl)]
      exact hgo
    · rw [if_neg h] at hgo
      have hb : ¬ ((l[i].toNat : Int) = 10) := fun e => h (by apply UInt8.toNat_inj.1; have : (10 : UInt8).toNat = 10 := rfl; omega)
      rw [if_neg hb, if_pos (by omega), if_pos (by omega)]
      have he : (B l).extract ((i : Int).toNat) (((i : Int) + 1).toNat) = B [l[i]] := by
        rw [B_extract]
        congr 1
        rw [show ((i : Int)).toNat = i by omega, show ((i : Int) + 1).toNat = i + 1 by omega, show i + 1 - i = 1 by omega, List.drop_eq_getElem_cons hlt]
        rfl
      rw [he, if_pos (by rw [B_size, B_size]; simp; omega), B_append]
      exact hgo
theorem clean_eq (l : List UInt8) (hl : l.length ≤ 1000) (k : Nat) (hk : l.length < k) : chancellaw02_clean.f k (B l) = some (B (cleanL l)) := by
  exact clean_loop l hl l.length k 0 (by omega) (by omega) hk
theorem cleanL_no (l : List UInt8) : ∀ c ∈ cleanL l, c ≠ 10 := by
  intro c hc
  have := (List.mem_filter.1 hc).2
  simpa using this

/-! ### with notes between -/
theorem note_len (q r : List UInt8) (hq : ∀ c ∈ q, c ≠ 10) : (q ++ 10 :: r).takeWhile (· != 10) = q := by
  induction q with
  | nil => simp
  | cons b q ih =>
    rw [List.cons_append, List.takeWhile_cons, if_pos (by simpa using hq b (by simp)), ih fun c h => hq c (by simp [h])]
theorem tokL_note (q r : List UInt8) (hq : ∀ c ∈ q, c ≠ 10) : tokL (35 :: (q ++ 10 :: r)) = tokL r := by
  have : nextL (35 :: (q ++ 10 :: r)) = ⟨0, [], 0, q.length + 1, true⟩ := by
    rw [nextL_cons, if_pos (by decide), List.takeWhile_cons, if_pos (by decide), note_len q r hq]; rfl
  rw [tokL_cons, this, if_pos rfl, if_neg (by simp)]
  show tokL ((35 :: (q ++ 10 :: r)).drop (q.length + 1)) = _
  rw [List.drop_succ_cons, List.drop_left, tokL_blank 10 (.inr rfl)]
def piece (q : List UInt8) (t : TokT) : List UInt8 := [32, 10] ++ t.f1.data.toList ++ [35] ++ q ++ [10]
def pieces (q : List UInt8) (ts : List TokT) : List UInt8 := ts.flatMap (piece q)
theorem tokL_pieces (q : List UInt8) (hq : ∀ c ∈ q, c ≠ 10) : ∀ ts : List TokT, ts.all rightT = true → tokL (pieces q ts) = some ts
  | [], _ => tokL_nil
  | t :: ts, h => by
    simp only [List.all_cons, Bool.and_eq_true] at h
    have e : pieces q (t :: ts) = 32 :: 10 :: (t.f1.data.toList ++ (35 :: (q ++ 10 :: pieces q ts))) := by simp [pieces, piece]
    rw [e, tokL_blank 32 (.inl rfl), tokL_blank 10 (.inr rfl), tokL_right t h.1 _ (.inr ⟨35, _, rfl, .inr (.inr rfl)⟩), tokL_note q _ hq, tokL_pieces q hq ts h.2]; rfl
theorem pieces_len (q : List UInt8) (hq : q.length ≤ 20) : ∀ ts : List TokT, (∀ t ∈ ts, t.f1.size ≤ 10) → (pieces q ts).length ≤ ts.length * 40
  | [], _ => by simp [pieces]
  | t :: ts, h => by
    have ih := pieces_len q hq ts fun x hx => h x (by simp [hx])
    have ht := h t (by simp)
    rw [size_len] at ht
    have e : (pieces q (t :: ts)).length = (piece q t).length + (pieces q ts).length := by simp [pieces]
    have e2 : (piece q t).length = t.f1.data.toList.length + q.length + 4 := by unfold piece; simp only [List.length_append, List.length_cons, List.length_nil]; omega
    rw [e, e2, List.length_cons, Nat.succ_mul]
    omega
theorem pieces_snoc (q : List UInt8) (ts : List TokT) (t : TokT) : pieces q (ts ++ [t]) = pieces q ts ++ piece q t := by simp [pieces]
theorem same_eq (l m : List TokT) (hb : l.length ≤ 9223372036854775806) (k : Nat) (hk : l.length < k) (h : l.length = m.length) : chancellaw02_same.f k l m = some (sameL l m) := by
  unfold chancellaw02_same.f
  rw [if_pos (by omega)]
  have := same_loop l m h hb l.length k 0 (by omega) (by omega) hk
  simpa using this

theorem back_loop (q : List UInt8) (hql : q.length ≤ 20) (ts : List TokT) (hr : ts.all rightT = true) (hs : ∀ t ∈ ts, t.f1.size ≤ 10) (hn : ts.length ≤ 300) (d : Nat) : ∀ (k i : Nat), i ≤ ts.length → ts.length - i = d → 200000 + d < k →
    chancellaw02_LexBack.l0 k (B q) true ts ts 0 (B (pieces (cleanL q) (ts.take i))) (i : Int) = some true := by
  have hcl : (cleanL q).length ≤ 20 := Nat.le_trans (List.length_filter_le _ _) hql
  induction d with
  | zero =>
    intro k i h1 h2 h3
    obtain ⟨k, rfl⟩ : ∃ m, k = m + 1 := ⟨k - 1, by omega⟩
    obtain rfl : i = ts.length := by omega
    have hpl := pieces_len (cleanL q) hcl ts hs
    have hsm := same_eq ts ts (by omega) k (by omega) rfl
    rw [same_self] at hsm
    simp only [chancellaw02_LexBack.l0]
    rw [if_neg (by omega), List.take_length, lex_eq k _ (by omega) (by omega), lexR_of (tokL_pieces _ (cleanL_no q) ts hr) (by omega),
      right_eq k ts (fun t ht => ⟨by have := hs t ht; omega, by have := hs t ht; omega⟩), hsm, hr]
    simp [hsm]
  | succ d ih =>
    intro k i h1 h2 h3
    obtain ⟨k, rfl⟩ : ∃ m, k = m + 1 := ⟨k - 1, by omega⟩
    have hlt : i < ts.length := by omega
    have hgo := ih k (i + 1) (by omega) (by omega) (by omega)
    have e1 : rd_T41 ts (i : Int) = ts[i] := by unfold rd_T41; simp [List.getD_eq_getElem?_getD, List.getElem?_eq_getElem hlt]
    have hpl := pieces_len (cleanL q) hcl (ts.take i) fun t ht => hs t (List.mem_of_mem_take ht)
    rw [List.length_take] at hpl
    have hsz := hs ts[i] (List.getElem_mem hlt)
    have es2 : (⟨#[32, 10]⟩ : ByteArray).size = 2 := rfl
    have es1 : (⟨#[35]⟩ : ByteArray).size = 1 := rfl
    rw [List.take_succ_eq_append_getElem hlt, pieces_snoc] at hgo
    have hpc : B (pieces (cleanL q) (ts.take i)) ++ (⟨#[32, 10]⟩ : ByteArray) ++ ts[i].f1 ++ (⟨#[35]⟩ : ByteArray) ++ B (cleanL q) ++ (⟨#[10]⟩ : ByteArray) = B (pieces (cleanL q) (ts.take i) ++ piece (cleanL q) ts[i]) := by
      have f1 : ts[i].f1 = B ts[i].f1.data.toList := (B_of _).symm
      rw [f1, show (⟨#[32, 10]⟩ : ByteArray) = B [32, 10] from rfl, show (⟨#[35]⟩ : ByteArray) = B [35] from rfl, show (⟨#[10]⟩ : ByteArray) = B [10] from rfl]
      simp only [B_append, B_list]
      congr 1
      simp [piece]
    rw [← hpc] at hgo
    simp only [chancellaw02_LexBack.l0]
    rw [e1, if_pos (by omega), if_pos (by rw [B_size]; omega), if_pos (by omega), if_pos (by rw [ByteArray.size_append, B_size, es2]; omega),
      if_pos (by rw [ByteArray.size_append, ByteArray.size_append, B_size, es2]; omega), clean_eq q (by omega) k (by omega), Option.bind_some,
      if_pos (by simp only [ByteArray.size_append, B_size, es2, es1]; omega), if_pos (by simp only [ByteArray.size_append, B_size, es2, es1]; omega), wrap_id (by omega) (by omega)]
    exact hgo
theorem back_pure : chancellaw02_LexBack.Pure := by
  intro l a1 hm hy hw ha
  obtain ⟨m, rfl⟩ : ∃ m, a1 = B m := ⟨_, (B_of a1).symm⟩
  have hmn : mn (l.length : Int) 300 = ((min l.length 300 : Nat) : Int) := by unfold mn; (repeat' split) <;> omega
  have hmn2 : mn ((B m).size : Int) 20 = ((min m.length 20 : Nat) : Int) := by rw [B_size]; unfold mn; (repeat' split) <;> omega
  refine ⟨300000, ?_⟩
  unfold chancellaw02_LexBack.f chancellaw02_examples.f
  rw [hmn, hmn2, B_size, Int.toNat_natCast, Int.toNat_natCast]
  have hw0 : ∀ x ∈ l.take (min l.length 300), 0 ≤ x := fun x hx => (Go.bounds_u8 (hw x (List.mem_of_mem_take hx))).1
  have hlen : (l.take (min l.length 300)).length ≤ 300 := by rw [List.length_take]; omega
  obtain ⟨l', hl'⟩ : ∃ l', l.take (min l.length 300) = l' := ⟨_, rfl⟩
  rw [hl'] at hw0 hlen ⊢
  have hext : (B m).extract 0 (min m.length 20) = B (m.take (min m.length 20)) := by rw [B_extract]; simp
  have hts : ∀ t ∈ l'.map someT, t.f1.size ≤ 10 := by
    intro t ht
    obtain ⟨x, hx, rfl⟩ := List.mem_map.1 ht
    exact (someT_ok x (hw0 x hx)).2
  have hr : (l'.map someT).all rightT = true := by
    rw [List.all_eq_true]
    intro t ht
    obtain ⟨x, hx, rfl⟩ := List.mem_map.1 ht
    exact (someT_ok x (hw0 x hx)).1
  have htl : (l'.map someT).length ≤ 300 := by rw [List.length_map]; exact hlen
  have hpb := print_bound (l'.map someT) 10 hts
  simp only [Option.bind_some, if_true]
  rw [if_pos (by omega), if_pos (by omega), if_pos (by omega), if_pos (by omega), some_eq l' (by omega) hw0 _ (by omega), Option.bind_some,
    print_eq _ _ (by omega) (by omega) (by omega), Option.bind_some, lex_eq _ _ (by omega) (by omega), lexR_of (tokL_print _ hr) (by omega), Option.bind_some, hext]
  have := back_loop (m.take (min m.length 20)) (by rw [List.length_take]; omega) (l'.map someT) hr hts htl (l'.map someT).length 300000 0 (by omega) (by omega) (by omega)
  simpa [pieces, B] using this
theorem lawBack (w : World) (hG : GL w) (A : Option Addr) (c : Nat) (l : List Int) (hr : Kd.C (Kd.int .u8) w A l.length l) (hc : l.length ≤ c) (hm : l.length ≤ maxLen) (hy : l.length ≤ 140737488351232) (hw : ∀ x ∈ l, (Lit.int .u8 x).wf = true)
    (m : List UInt8) (hn : m.length ≤ 140737488351232) :
    Calls Tryd.prog 4 #[.slice A l.length c, .string (B m)] w fun e w' => e = .returned (.bool true) ∧ Below w.heap.size w w' := by
  obtain ⟨k, h⟩ := back_pure l (B m) hm (by omega) hw (by rw [B_size]; omega)
  refine (chancellaw02_LexBack.calls k A c l (B m) true w hG hr hc h).mono ?_
  rintro e w' ⟨rfl, hd⟩
  exact ⟨rfl, hd⟩
end Go.Proofs.YtcpknmffnglegaaDoor.X

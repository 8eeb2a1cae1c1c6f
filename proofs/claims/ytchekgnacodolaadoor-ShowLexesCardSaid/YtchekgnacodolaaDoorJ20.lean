-- Joined by our own program (wip/tools/prune.py) out of the seat's texts, less what this claim doesn't name.
import Derived.OpenShut
import Derived.Test.YtchekgnacodolaaDoorJ13
import Derived.Test.YtchekgnacodolaaDoorJ16
import Derived.Test.YtchekgnacodolaaDoorJ19
section
namespace Go.Proofs.YtchekgnacodolaaDoor.X
open Go.RowKit Go.Proofs.YtchekgnacodolaaDoorW.PrintWords Go.Proofs.YtchekgnacodolaaDoorW.PrintLast Go.Proofs.YtchekgnacodolaaDoorW.PrintMore
set_option linter.unusedSimpArgs false
set_option linter.unusedVariables false
structure GP (w : World) : Prop where
  g : GL w
  t : GT w
theorem GP.below {w w1 : World} (h : GP w) (hb : Below w.heap.size w w1) : GP w1 := ⟨h.g.below hb, h.t.below hb⟩
def RdB (w : World) (A : Option Addr) (l : List UInt8) : Prop := ∀ (j : Nat) b, l[j]? = some b → ∃ ad, A = some ad ∧ w.cell? (ad.add j) = some (.int .u8 (b.toNat : Int))
theorem RdB.below {w w1 : World} {A : Option Addr} {l : List UInt8} (h : RdB w A l) (hb : Below w.heap.size w w1) : RdB w1 A l := fun j b hj => by
  obtain ⟨ad, e, hc⟩ := h j b hj
  exact ⟨ad, e, pw_cell_below hb hc⟩
theorem bytes_of {w : World} {A : Option Addr} {l : List Int} (hr : Kd.C (Kd.int .u8) w A l.length l) (hw : ∀ x ∈ l, (Lit.int .u8 x).wf = true) : ∃ bs : List UInt8, bs.length = l.length ∧ RdB w A bs := by
  refine ⟨l.map fun x => UInt8.ofNat x.toNat, by simp, fun j b hj => ?_⟩
  rw [List.getElem?_map, Option.map_eq_some_iff] at hj
  obtain ⟨x, hx, rfl⟩ := hj
  obtain ⟨hlt, rfl⟩ := List.getElem?_eq_some_iff.1 hx
  have hb := Go.bounds_u8 (hw l[j] (List.getElem_mem hlt))
  obtain ⟨ad, e, hc⟩ := Kd.at_int hr (j : Int) (by omega) (by omega)
  refine ⟨ad, e, ?_⟩
  rw [Int.toNat_natCast] at hc
  rw [hc]
  have e1 : rd l (j : Int) = l[j] := by unfold rd; simp [List.getD_eq_getElem?_getD, List.getElem?_eq_getElem hlt]
  rw [e1, UInt8.toNat_ofNat_of_lt' (by show l[j].toNat < 256; omega)]
  congr 3; omega
theorem word_small {nm : ByteArray} (h : wordB nm = true) : nm.size ≤ 16 := right_size (right_name h)
theorem names1 (k : Int) (nm : ByteArray) (a : Tm) (hn : nm.size ≤ 16) (ha : namesT a = true) : namesT (tm k nm [a]) = true := by
  simp only [tm, namesT, namessT, ha, Bool.and_true, Bool.true_and, decide_eq_true_eq]; omega
theorem names2 (k : Int) (nm : ByteArray) (a b : Tm) (hn : nm.size ≤ 16) (ha : namesT a = true) (hb : namesT b = true) : namesT (tm k nm [a, b]) = true := by
  simp only [tm, namesT, namessT, ha, hb, Bool.and_true, Bool.true_and, decide_eq_true_eq]; omega
theorem names3 (k : Int) (nm : ByteArray) (a b c : Tm) (hn : nm.size ≤ 16) (ha : namesT a = true) (hb : namesT b = true) (hc : namesT c = true) : namesT (tm k nm [a, b, c]) = true := by
  simp only [tm, namesT, namessT, ha, hb, hc, Bool.and_true, Bool.true_and, decide_eq_true_eq]; omega
theorem names_nodes (t : Tm) (h : nodesT t = true) : namesT t = true := by
  have z : noName.size ≤ 16 := by decide
  refine shown_ind (P := fun t => namesT t = true) ?_ ?_ ?_ ?_ ?_ ?_ ?_ ?_ ?_ ?_ ?_ ?_ ?_ t h
  · intro n _ _; simp only [namesT, namessT, Bool.and_true, decide_eq_true_eq]; omega
  · intro nm hn; have := word_small hn; simp only [tm, namesT, namessT, Bool.and_true, decide_eq_true_eq]; omega
  · intro nm a hn _ pa; exact names1 3 nm a (word_small hn) pa
  · intro a b _ _ pa pb; exact names2 4 noName a b z pa pb
  · intro nm a b hn _ _ pa pb; exact names2 5 nm a b (word_small hn) pa pb
  · intro a b c _ _ _ pa pb pc; exact names3 6 noName a b c z pa pb pc
  · intro a b _ _ pa pb; exact names2 7 noName a b z pa pb
  · intro a _ pa; exact names1 8 noName a z pa
  · intro nm a b hn _ _ pa pb; exact names2 9 nm a b (word_small hn) pa pb
  · intro a _ pa; exact names1 10 noName a z pa
  · intro a b _ _ pa pb; exact names2 11 noName a b z pa pb
  · intro nm a b hn _ _ pa pb; exact names2 12 nm a b (by have := op_size hn; omega) pa pb
  · intro a b _ _ pa pb; exact names2 13 noName a b z pa pb
theorem showR (t : Tm) (hr : rightTm t = true) (vt : Value) (w : World) (h : TmR w t vt) (hG : GP w) :
    Calls Tryd.prog 8 #[vt] w fun e w' => e = .returned (.string (B (printL (toksT t)))) ∧ Below w.heap.size w w' := by
  obtain ⟨h1, h2, h3⟩ := right_nodes hr
  have := showC t vt w h (names_nodes t h1) (by omega) hG.g hG.t
  unfold showS at this
  rwa [if_pos hr] at this
theorem showToksR (t : Tm) (hr : rightTm t = true) (vt : Value) (w : World) (h : TmR w t vt) (hG : GP w) :
    Calls Tryd.prog 6 #[vt] w fun e w' => ∃ A c, e = .returned (.slice A (toksT t).length c) ∧ Reads w' A c (toksT t) ∧ Below w.heap.size w w' := by
  obtain ⟨h1, h2, h3⟩ := right_nodes hr
  refine (showToksC t vt w h (names_nodes t h1) (by omega) hG.g hG.t).mono ?_
  unfold toksS
  rw [if_pos hr]
  rintro e w' ⟨v, rfl, ho, hb⟩
  obtain ⟨A, c, rfl⟩ := Kd.R_slice ho
  exact ⟨A, c, rfl, ⟨(Kd.R_reads' ho).2.2, (Kd.R_reads' ho).2.1⟩, hb⟩
theorem rightR (t : Tm) (hr : rightTm t = true) (vt : Value) (w : World) (h : TmR w t vt) (hG : GP w) :
    Calls Tryd.prog 9 #[vt] w fun e w' => e = .returned (.bool true) ∧ Below w.heap.size w w' := by
  obtain ⟨h1, h2, h3⟩ := right_nodes hr
  have := termRightC t vt w h (names_nodes t h1) (by omega) hG.g hG.t
  rwa [hr] at this
abbrev tmA (t : Tm) (A : Option Addr) (c : Nat) : Array Value := #[.int .i64 t.f0, .string t.f1, .int .i64 t.f2, .slice A t.f3.length c]
theorem madeS (A : Option Addr) (c : Nat) (l : List UInt8) (t : Tm) (ht : madeT l = t) (w : World) (hr : RdB w A l) (hc : l.length ≤ c) (hl : l.length ≤ 9223372036854775807) :
    Calls Tryd.prog 5 #[.slice A l.length c] w fun e w' => ∃ A c, e = .returned (.agg (tmA t A c)) ∧ TmR w' t (.agg (tmA t A c)) ∧ Below w.heap.size w w' := by
  subst ht
  refine (madeC A c l w hr hc hl).mono ?_
  rintro e w' ⟨v, rfl, hv, hb⟩
  obtain ⟨A, c, rfl, hl, hC⟩ := hv.R
  exact ⟨A, c, rfl, ⟨A, c, rfl, hl, hC⟩, hb⟩
theorem small_right {t : Tm} (h : Small 6 t) : rightTm t = true := h.right (by decide) (by decide)
theorem print_len {t : Tm} (h : rightTm t = true) : (printL (toksT t)).length ≤ 1020000 := (show_right h).2.2
theorem toks_small {t : Tm} (h : rightTm t = true) : (toksT t).length ≤ 60000 ∧ ∀ x ∈ toksT t, x.f1.size ≤ 281474976710656 :=
  ⟨(show_right h).2.1, fun x hx => Nat.le_trans (right_size (List.all_eq_true.1 (toks_right t (right_nodes h).1) x hx)) (by decide)⟩
theorem TmR.kids2 {b : Nat} {w : World} {a a' : Tm} {A A' : Option Addr} {c c' : Nat} {T : TypeId} (k : Int) (nm : ByteArray) (h0 : TmR w a (.agg (tmA a A c))) (h1 : TmR w a' (.agg (tmA a' A' c')))
    (hb : Own w b #[.int .i64 a.f0, .string a.f1, .int .i64 a.f2, .slice A a.f3.length c, .int .i64 a'.f0, .string a'.f1, .int .i64 a'.f2, .slice A' a'.f3.length c'] T) :
    TmR w (tm k nm [a, a']) (.agg #[.int .i64 k, .string nm, .int .i64 0, .slice (some ⟨b, 0, none⟩) 2 2]) := by
  obtain ⟨_, _, e0, hl0, hC0⟩ := h0
  obtain ⟨_, _, e1, hl1, hC1⟩ := h1
  simp only [Value.agg.injEq, Array.mk.injEq, List.cons.injEq, Value.slice.injEq, true_and, and_true] at e0 e1
  obtain ⟨rfl, rfl⟩ := e0
  obtain ⟨rfl, rfl⟩ := e1
  exact ⟨_, 2, rfl, Nat.le_refl _, C_lit hb (Reps.c4 (k26_mk w a hl0 hC0) (Reps.c4 (k26_mk w a' hl1 hC1) (Reps.none _ _))) (by show (2 : Nat) ≤ _; decide)⟩
theorem TmR.kids1 {b : Nat} {w : World} {a : Tm} {A : Option Addr} {c : Nat} {T : TypeId} (k : Int) (nm : ByteArray) (h0 : TmR w a (.agg (tmA a A c))) (hb : Own w b #[.int .i64 a.f0, .string a.f1, .int .i64 a.f2, .slice A a.f3.length c] T) :
    TmR w (tm k nm [a]) (.agg #[.int .i64 k, .string nm, .int .i64 0, .slice (some ⟨b, 0, none⟩) 1 1]) := by
  obtain ⟨_, _, e0, hl0, hC0⟩ := h0
  simp only [Value.agg.injEq, Array.mk.injEq, List.cons.injEq, Value.slice.injEq, true_and, and_true] at e0
  obtain ⟨rfl, rfl⟩ := e0
  exact ⟨_, 1, rfl, Nat.le_refl _, C_lit hb (Reps.c4 (k26_mk w a hl0 hC0) (Reps.none _ _)) (by show (1 : Nat) ≤ _; decide)⟩
theorem showG (t : Tm) (r : ByteArray) (hr : B (showS t) = r) (vt : Value) (w : World) (h : TmR w t vt) (hn : namesT t = true) (hs : sizeT t ≤ 9223372036854775807) (hG : GP w) :
    Calls Tryd.prog 8 #[vt] w fun e w' => e = .returned (.string r) ∧ Below w.heap.size w w' := by
  subst hr
  exact showC t vt w h hn hs hG.g hG.t
theorem showToksG (t : Tm) (n : Nat) (hl : (toksS t).length = n) (vt : Value) (w : World) (h : TmR w t vt) (hn : namesT t = true) (hs : sizeT t ≤ 9223372036854775807) (hG : GP w) :
    Calls Tryd.prog 6 #[vt] w fun e w' => ∃ A c, e = .returned (.slice A n c) ∧ Reads w' A c (toksS t) ∧ Below w.heap.size w w' := by
  subst hl
  refine (showToksC t vt w h hn hs hG.g hG.t).mono ?_
  rintro e w' ⟨v, rfl, ho, hb⟩
  obtain ⟨A, c, rfl⟩ := Kd.R_slice ho
  exact ⟨A, c, rfl, ⟨(Kd.R_reads' ho).2.2, (Kd.R_reads' ho).2.1⟩, hb⟩
theorem lexRightG (l : List TokT) (n : Nat) (hl : l.length = n) (hr : l.all rightT = true) (A : Option Addr) (c : Nat) (w : World) (h : Reads w A c l) (hG : GP w) :
    Calls Tryd.prog 10 #[.slice A n c] w fun e w' => e = .returned (.bool true) ∧ Below w.heap.size w w' := by
  subst hl
  have := rightC l A c (fun x hx => Nat.le_trans (right_size (List.all_eq_true.1 hr x hx)) (by decide)) w hG.g h
  rwa [hr] at this
end Go.Proofs.YtchekgnacodolaaDoor.X
end
section
namespace Go.Proofs.YtchekgnacodolaaDoor.X
open Go.RowKit Go.Proofs.YtchekgnacodolaaDoorW.PrintWords Go.Proofs.YtchekgnacodolaaDoorW.PrintLast Go.Proofs.YtchekgnacodolaaDoorW.PrintMore
set_option linter.unusedSimpArgs false
set_option linter.unusedVariables false
theorem below_alloc' {w w1 : World} (h : Below w.heap.size w w1) (o : Obj) : Below w.heap.size w (w1.alloc o) := h.trans ((below_alloc (Below.refl w1.heap.size w1) o).mono h.size)
def e4x : Tm := tm 2 ⟨#[120]⟩ []
def e4o : Tm := ⟨1, ⟨#[]⟩, 1, []⟩
def e4a : Tm := tm 12 ⟨#[43]⟩ [e4x, e4o]
def e4f : Tm := tm 3 ⟨#[120]⟩ [e4a]
def e4g : Tm := tm 10 noName [e4x]
def e4t : Tm := tm 9 ⟨#[121]⟩ [e4g, e4o]
theorem e4f_show : B (showS e4f) = ⟨#[102, 117, 110, 32, 120, 32, 61, 62, 32, 40, 32, 120, 32, 43, 32, 49, 32, 41]⟩ := by kernel_rfl
theorem e4t_show : B (showS e4t) = ⟨#[116, 114, 121, 32, 40, 32, 33, 32, 120, 32, 41, 32, 119, 105, 116, 104, 32, 121, 32, 61, 62, 32, 49]⟩ := by kernel_rfl
theorem e4o_show : B (showS e4o) = ⟨#[49]⟩ := by kernel_rfl
theorem e4z_show : B (showS zTm) = ⟨#[63]⟩ := by kernel_rfl
theorem e4f_toks : (toksS e4f).length = 8 := by kernel_rfl
theorem e4f_right : (toksS e4f).all rightT = true := by kernel_rfl
theorem e4z_toks : (toksS zTm).length = 0 := by kernel_rfl
theorem Own.at_alloc {w : World} {n : Nat} (h : w.heap.size = n) (cs : Array Value) (T : TypeId) : Own (w.alloc (.cells cs T)) n cs T := by rw [← h]; exact Own.new _ _ _
theorem size_alloc {w : World} {n : Nat} (h : w.heap.size = n) (o : Obj) : (w.alloc o).heap.size = n + 1 := by rw [← h]; simp
set_option maxRecDepth 100000 in
set_option maxHeartbeats 8000000 in
theorem exam4C (w : World) (hG : GP w) :
    Calls Tryd.prog 4 #[] w fun e w' => e = .returned (.bool true) ∧ Below w.heap.size w w' := by
  have s0 : w.heap.size = w.heap.size := rfl
  have s1 : (w.alloc (.cells #[.int .i64 2, .string ⟨#[120]⟩, .int .i64 0, .slice none 0 0] 26)).heap.size = w.heap.size + 1 := size_alloc s0 _
  have s2 : ((w.alloc (.cells #[.int .i64 2, .string ⟨#[120]⟩, .int .i64 0, .slice none 0 0] 26)).alloc (.cells #[.int .i64 1, .string ⟨#[]⟩, .int .i64 1, .slice none 0 0] 26)).heap.size = w.heap.size + 1 + 1 := size_alloc s1 _
  have s3 : (((w.alloc (.cells #[.int .i64 2, .string ⟨#[120]⟩, .int .i64 0, .slice none 0 0] 26)).alloc (.cells #[.int .i64 1, .string ⟨#[]⟩, .int .i64 1, .slice none 0 0] 26)).alloc (.cells #[.int .i64 2, .string ⟨#[120]⟩, .int .i64 0, .slice none 0 0, .int .i64 1, .string ⟨#[]⟩, .int .i64 1, .slice none 0 0] 26)).heap.size = w.heap.size + 1 + 1 + 1 := size_alloc s2 _
  have s4 : ((((w.alloc (.cells #[.int .i64 2, .string ⟨#[120]⟩, .int .i64 0, .slice none 0 0] 26)).alloc (.cells #[.int .i64 1, .string ⟨#[]⟩, .int .i64 1, .slice none 0 0] 26)).alloc (.cells #[.int .i64 2, .string ⟨#[120]⟩, .int .i64 0, .slice none 0 0, .int .i64 1, .string ⟨#[]⟩, .int .i64 1, .slice none 0 0] 26)).alloc (.cells #[.int .i64 12, .string ⟨#[43]⟩, .int .i64 0, .slice (some ⟨w.heap.size + 1 + 1, 0, none⟩) 2 2] 26)).heap.size = w.heap.size + 1 + 1 + 1 + 1 := size_alloc s3 _
  have s5 : (((((w.alloc (.cells #[.int .i64 2, .string ⟨#[120]⟩, .int .i64 0, .slice none 0 0] 26)).alloc (.cells #[.int .i64 1, .string ⟨#[]⟩, .int .i64 1, .slice none 0 0] 26)).alloc (.cells #[.int .i64 2, .string ⟨#[120]⟩, .int .i64 0, .slice none 0 0, .int .i64 1, .string ⟨#[]⟩, .int .i64 1, .slice none 0 0] 26)).alloc (.cells #[.int .i64 12, .string ⟨#[43]⟩, .int .i64 0, .slice (some ⟨w.heap.size + 1 + 1, 0, none⟩) 2 2] 26)).alloc (.cells #[.int .i64 12, .string ⟨#[43]⟩, .int .i64 0, .slice (some ⟨w.heap.size + 1 + 1, 0, none⟩) 2 2] 26)).heap.size = w.heap.size + 1 + 1 + 1 + 1 + 1 := size_alloc s4 _
  have s6 : ((((((w.alloc (.cells #[.int .i64 2, .string ⟨#[120]⟩, .int .i64 0, .slice none 0 0] 26)).alloc (.cells #[.int .i64 1, .string ⟨#[]⟩, .int .i64 1, .slice none 0 0] 26)).alloc (.cells #[.int .i64 2, .string ⟨#[120]⟩, .int .i64 0, .slice none 0 0, .int .i64 1, .string ⟨#[]⟩, .int .i64 1, .slice none 0 0] 26)).alloc (.cells #[.int .i64 12, .string ⟨#[43]⟩, .int .i64 0, .slice (some ⟨w.heap.size + 1 + 1, 0, none⟩) 2 2] 26)).alloc (.cells #[.int .i64 12, .string ⟨#[43]⟩, .int .i64 0, .slice (some ⟨w.heap.size + 1 + 1, 0, none⟩) 2 2] 26)).alloc (.cells #[.int .i64 3, .string ⟨#[120]⟩, .int .i64 0, .slice (some ⟨w.heap.size + 1 + 1 + 1 + 1, 0, none⟩) 1 1] 26)).heap.size = w.heap.size + 1 + 1 + 1 + 1 + 1 + 1 := size_alloc s5 _
  have s7 : (((((((w.alloc (.cells #[.int .i64 2, .string ⟨#[120]⟩, .int .i64 0, .slice none 0 0] 26)).alloc (.cells #[.int .i64 1, .string ⟨#[]⟩, .int .i64 1, .slice none 0 0] 26)).alloc (.cells #[.int .i64 2, .string ⟨#[120]⟩, .int .i64 0, .slice none 0 0, .int .i64 1, .string ⟨#[]⟩, .int .i64 1, .slice none 0 0] 26)).alloc (.cells #[.int .i64 12, .string ⟨#[43]⟩, .int .i64 0, .slice (some ⟨w.heap.size + 1 + 1, 0, none⟩) 2 2] 26)).alloc (.cells #[.int .i64 12, .string ⟨#[43]⟩, .int .i64 0, .slice (some ⟨w.heap.size + 1 + 1, 0, none⟩) 2 2] 26)).alloc (.cells #[.int .i64 3, .string ⟨#[120]⟩, .int .i64 0, .slice (some ⟨w.heap.size + 1 + 1 + 1 + 1, 0, none⟩) 1 1] 26)).alloc (.cells #[.int .i64 2, .string ⟨#[120]⟩, .int .i64 0, .slice none 0 0] 26)).heap.size = w.heap.size + 1 + 1 + 1 + 1 + 1 + 1 + 1 := size_alloc s6 _
  have s8 : ((((((((w.alloc (.cells #[.int .i64 2, .string ⟨#[120]⟩, .int .i64 0, .slice none 0 0] 26)).alloc (.cells #[.int .i64 1, .string ⟨#[]⟩, .int .i64 1, .slice none 0 0] 26)).alloc (.cells #[.int .i64 2, .string ⟨#[120]⟩, .int .i64 0, .slice none 0 0, .int .i64 1, .string ⟨#[]⟩, .int .i64 1, .slice none 0 0] 26)).alloc (.cells #[.int .i64 12, .string ⟨#[43]⟩, .int .i64 0, .slice (some ⟨w.heap.size + 1 + 1, 0, none⟩) 2 2] 26)).alloc (.cells #[.int .i64 12, .string ⟨#[43]⟩, .int .i64 0, .slice (some ⟨w.heap.size + 1 + 1, 0, none⟩) 2 2] 26)).alloc (.cells #[.int .i64 3, .string ⟨#[120]⟩, .int .i64 0, .slice (some ⟨w.heap.size + 1 + 1 + 1 + 1, 0, none⟩) 1 1] 26)).alloc (.cells #[.int .i64 2, .string ⟨#[120]⟩, .int .i64 0, .slice none 0 0] 26)).alloc (.cells #[.int .i64 10, .string ⟨#[]⟩, .int .i64 0, .slice (some ⟨w.heap.size + 1 + 1 + 1 + 1 + 1 + 1, 0, none⟩) 1 1] 26)).heap.size = w.heap.size + 1 + 1 + 1 + 1 + 1 + 1 + 1 + 1 := size_alloc s7 _
  have s9 : (((((((((w.alloc (.cells #[.int .i64 2, .string ⟨#[120]⟩, .int .i64 0, .slice none 0 0] 26)).alloc (.cells #[.int .i64 1, .string ⟨#[]⟩, .int .i64 1, .slice none 0 0] 26)).alloc (.cells #[.int .i64 2, .string ⟨#[120]⟩, .int .i64 0, .slice none 0 0, .int .i64 1, .string ⟨#[]⟩, .int .i64 1, .slice none 0 0] 26)).alloc (.cells #[.int .i64 12, .string ⟨#[43]⟩, .int .i64 0, .slice (some ⟨w.heap.size + 1 + 1, 0, none⟩) 2 2] 26)).alloc (.cells #[.int .i64 12, .string ⟨#[43]⟩, .int .i64 0, .slice (some ⟨w.heap.size + 1 + 1, 0, none⟩) 2 2] 26)).alloc (.cells #[.int .i64 3, .string ⟨#[120]⟩, .int .i64 0, .slice (some ⟨w.heap.size + 1 + 1 + 1 + 1, 0, none⟩) 1 1] 26)).alloc (.cells #[.int .i64 2, .string ⟨#[120]⟩, .int .i64 0, .slice none 0 0] 26)).alloc (.cells #[.int .i64 10, .string ⟨#[]⟩, .int .i64 0, .slice (some ⟨w.heap.size + 1 + 1 + 1 + 1 + 1 + 1, 0, none⟩) 1 1] 26)).alloc (.cells #[.int .i64 10, .string ⟨#[]⟩, .int .i64 0, .slice (some ⟨w.heap.size + 1 + 1 + 1 + 1 + 1 + 1, 0, none⟩) 1 1, .int .i64 1, .string ⟨#[]⟩, .int .i64 1, .slice none 0 0] 26)).heap.size = w.heap.size + 1 + 1 + 1 + 1 + 1 + 1 + 1 + 1 + 1 := size_alloc s8 _
  have N0 : Own (w.alloc (.cells #[.int .i64 2, .string ⟨#[120]⟩, .int .i64 0, .slice none 0 0] 26)) (w.heap.size) #[.int .i64 2, .string ⟨#[120]⟩, .int .i64 0, .slice none 0 0] 26 := Own.at_alloc s0 _ _
  have N1 : Own ((w.alloc (.cells #[.int .i64 2, .string ⟨#[120]⟩, .int .i64 0, .slice none 0 0] 26)).alloc (.cells #[.int .i64 1, .string ⟨#[]⟩, .int .i64 1, .slice none 0 0] 26)) (w.heap.size + 1) #[.int .i64 1, .string ⟨#[]⟩, .int .i64 1, .slice none 0 0] 26 := Own.at_alloc s1 _ _
  have N2 : Own (((w.alloc (.cells #[.int .i64 2, .string ⟨#[120]⟩, .int .i64 0, .slice none 0 0] 26)).alloc (.cells #[.int .i64 1, .string ⟨#[]⟩, .int .i64 1, .slice none 0 0] 26)).alloc (.cells #[.int .i64 2, .string ⟨#[120]⟩, .int .i64 0, .slice none 0 0, .int .i64 1, .string ⟨#[]⟩, .int .i64 1, .slice none 0 0] 26)) (w.heap.size + 1 + 1) #[.int .i64 2, .string ⟨#[120]⟩, .int .i64 0, .slice none 0 0, .int .i64 1, .string ⟨#[]⟩, .int .i64 1, .slice none 0 0] 26 := Own.at_alloc s2 _ _
  have N3 : Own ((((w.alloc (.cells #[.int .i64 2, .string ⟨#[120]⟩, .int .i64 0, .slice none 0 0] 26)).alloc (.cells #[.int .i64 1, .string ⟨#[]⟩, .int .i64 1, .slice none 0 0] 26)).alloc (.cells #[.int .i64 2, .string ⟨#[120]⟩, .int .i64 0, .slice none 0 0, .int .i64 1, .string ⟨#[]⟩, .int .i64 1, .slice none 0 0] 26)).alloc (.cells #[.int .i64 12, .string ⟨#[43]⟩, .int .i64 0, .slice (some ⟨w.heap.size + 1 + 1, 0, none⟩) 2 2] 26)) (w.heap.size + 1 + 1 + 1) #[.int .i64 12, .string ⟨#[43]⟩, .int .i64 0, .slice (some ⟨w.heap.size + 1 + 1, 0, none⟩) 2 2] 26 := Own.at_alloc s3 _ _
  have N4 : Own (((((w.alloc (.cells #[.int .i64 2, .string ⟨#[120]⟩, .int .i64 0, .slice none 0 0] 26)).alloc (.cells #[.int .i64 1, .string ⟨#[]⟩, .int .i64 1, .slice none 0 0] 26)).alloc (.cells #[.int .i64 2, .string ⟨#[120]⟩, .int .i64 0, .slice none 0 0, .int .i64 1, .string ⟨#[]⟩, .int .i64 1, .slice none 0 0] 26)).alloc (.cells #[.int .i64 12, .string ⟨#[43]⟩, .int .i64 0, .slice (some ⟨w.heap.size + 1 + 1, 0, none⟩) 2 2] 26)).alloc (.cells #[.int .i64 12, .string ⟨#[43]⟩, .int .i64 0, .slice (some ⟨w.heap.size + 1 + 1, 0, none⟩) 2 2] 26)) (w.heap.size + 1 + 1 + 1 + 1) #[.int .i64 12, .string ⟨#[43]⟩, .int .i64 0, .slice (some ⟨w.heap.size + 1 + 1, 0, none⟩) 2 2] 26 := Own.at_alloc s4 _ _
  have N5 : Own ((((((w.alloc (.cells #[.int .i64 2, .string ⟨#[120]⟩, .int .i64 0, .slice none 0 0] 26)).alloc (.cells #[.int .i64 1, .string ⟨#[]⟩, .int .i64 1, .slice none 0 0] 26)).alloc (.cells #[.int .i64 2, .string ⟨#[120]⟩, .int .i64 0, .slice none 0 0, .int .i64 1, .string ⟨#[]⟩, .int .i64 1, .slice none 0 0] 26)).alloc (.cells #[.int .i64 12, .string ⟨#[43]⟩, .int .i64 0, .slice (some ⟨w.heap.size + 1 + 1, 0, none⟩) 2 2] 26)).alloc (.cells #[.int .i64 12, .string ⟨#[43]⟩, .int .i64 0, .slice (some ⟨w.heap.size + 1 + 1, 0, none⟩) 2 2] 26)).alloc (.cells #[.int .i64 3, .string ⟨#[120]⟩, .int .i64 0, .slice (some ⟨w.heap.size + 1 + 1 + 1 + 1, 0, none⟩) 1 1] 26)) (w.heap.size + 1 + 1 + 1 + 1 + 1) #[.int .i64 3, .string ⟨#[120]⟩, .int .i64 0, .slice (some ⟨w.heap.size + 1 + 1 + 1 + 1, 0, none⟩) 1 1] 26 := Own.at_alloc s5 _ _
  have N6 : Own (((((((w.alloc (.cells #[.int .i64 2, .string ⟨#[120]⟩, .int .i64 0, .slice none 0 0] 26)).alloc (.cells #[.int .i64 1, .string ⟨#[]⟩, .int .i64 1, .slice none 0 0] 26)).alloc (.cells #[.int .i64 2, .string ⟨#[120]⟩, .int .i64 0, .slice none 0 0, .int .i64 1, .string ⟨#[]⟩, .int .i64 1, .slice none 0 0] 26)).alloc (.cells #[.int .i64 12, .string ⟨#[43]⟩, .int .i64 0, .slice (some ⟨w.heap.size + 1 + 1, 0, none⟩) 2 2] 26)).alloc (.cells #[.int .i64 12, .string ⟨#[43]⟩, .int .i64 0, .slice (some ⟨w.heap.size + 1 + 1, 0, none⟩) 2 2] 26)).alloc (.cells #[.int .i64 3, .string ⟨#[120]⟩, .int .i64 0, .slice (some ⟨w.heap.size + 1 + 1 + 1 + 1, 0, none⟩) 1 1] 26)).alloc (.cells #[.int .i64 2, .string ⟨#[120]⟩, .int .i64 0, .slice none 0 0] 26)) (w.heap.size + 1 + 1 + 1 + 1 + 1 + 1) #[.int .i64 2, .string ⟨#[120]⟩, .int .i64 0, .slice none 0 0] 26 := Own.at_alloc s6 _ _
  have N7 : Own ((((((((w.alloc (.cells #[.int .i64 2, .string ⟨#[120]⟩, .int .i64 0, .slice none 0 0] 26)).alloc (.cells #[.int .i64 1, .string ⟨#[]⟩, .int .i64 1, .slice none 0 0] 26)).alloc (.cells #[.int .i64 2, .string ⟨#[120]⟩, .int .i64 0, .slice none 0 0, .int .i64 1, .string ⟨#[]⟩, .int .i64 1, .slice none 0 0] 26)).alloc (.cells #[.int .i64 12, .string ⟨#[43]⟩, .int .i64 0, .slice (some ⟨w.heap.size + 1 + 1, 0, none⟩) 2 2] 26)).alloc (.cells #[.int .i64 12, .string ⟨#[43]⟩, .int .i64 0, .slice (some ⟨w.heap.size + 1 + 1, 0, none⟩) 2 2] 26)).alloc (.cells #[.int .i64 3, .string ⟨#[120]⟩, .int .i64 0, .slice (some ⟨w.heap.size + 1 + 1 + 1 + 1, 0, none⟩) 1 1] 26)).alloc (.cells #[.int .i64 2, .string ⟨#[120]⟩, .int .i64 0, .slice none 0 0] 26)).alloc (.cells #[.int .i64 10, .string ⟨#[]⟩, .int .i64 0, .slice (some ⟨w.heap.size + 1 + 1 + 1 + 1 + 1 + 1, 0, none⟩) 1 1] 26)) (w.heap.size + 1 + 1 + 1 + 1 + 1 + 1 + 1) #[.int .i64 10, .string ⟨#[]⟩, .int .i64 0, .slice (some ⟨w.heap.size + 1 + 1 + 1 + 1 + 1 + 1, 0, none⟩) 1 1] 26 := Own.at_alloc s7 _ _
  have N8 : Own (((((((((w.alloc (.cells #[.int .i64 2, .string ⟨#[120]⟩, .int .i64 0, .slice none 0 0] 26)).alloc (.cells #[.int .i64 1, .string ⟨#[]⟩, .int .i64 1, .slice none 0 0] 26)).alloc (.cells #[.int .i64 2, .string ⟨#[120]⟩, .int .i64 0, .slice none 0 0, .int .i64 1, .string ⟨#[]⟩, .int .i64 1, .slice none 0 0] 26)).alloc (.cells #[.int .i64 12, .string ⟨#[43]⟩, .int .i64 0, .slice (some ⟨w.heap.size + 1 + 1, 0, none⟩) 2 2] 26)).alloc (.cells #[.int .i64 12, .string ⟨#[43]⟩, .int .i64 0, .slice (some ⟨w.heap.size + 1 + 1, 0, none⟩) 2 2] 26)).alloc (.cells #[.int .i64 3, .string ⟨#[120]⟩, .int .i64 0, .slice (some ⟨w.heap.size + 1 + 1 + 1 + 1, 0, none⟩) 1 1] 26)).alloc (.cells #[.int .i64 2, .string ⟨#[120]⟩, .int .i64 0, .slice none 0 0] 26)).alloc (.cells #[.int .i64 10, .string ⟨#[]⟩, .int .i64 0, .slice (some ⟨w.heap.size + 1 + 1 + 1 + 1 + 1 + 1, 0, none⟩) 1 1] 26)).alloc (.cells #[.int .i64 10, .string ⟨#[]⟩, .int .i64 0, .slice (some ⟨w.heap.size + 1 + 1 + 1 + 1 + 1 + 1, 0, none⟩) 1 1, .int .i64 1, .string ⟨#[]⟩, .int .i64 1, .slice none 0 0] 26)) (w.heap.size + 1 + 1 + 1 + 1 + 1 + 1 + 1 + 1) #[.int .i64 10, .string ⟨#[]⟩, .int .i64 0, .slice (some ⟨w.heap.size + 1 + 1 + 1 + 1 + 1 + 1, 0, none⟩) 1 1, .int .i64 1, .string ⟨#[]⟩, .int .i64 1, .slice none 0 0] 26 := Own.at_alloc s8 _ _
  have N9 : Own ((((((((((w.alloc (.cells #[.int .i64 2, .string ⟨#[120]⟩, .int .i64 0, .slice none 0 0] 26)).alloc (.cells #[.int .i64 1, .string ⟨#[]⟩, .int .i64 1, .slice none 0 0] 26)).alloc (.cells #[.int .i64 2, .string ⟨#[120]⟩, .int .i64 0, .slice none 0 0, .int .i64 1, .string ⟨#[]⟩, .int .i64 1, .slice none 0 0] 26)).alloc (.cells #[.int .i64 12, .string ⟨#[43]⟩, .int .i64 0, .slice (some ⟨w.heap.size + 1 + 1, 0, none⟩) 2 2] 26)).alloc (.cells #[.int .i64 12, .string ⟨#[43]⟩, .int .i64 0, .slice (some ⟨w.heap.size + 1 + 1, 0, none⟩) 2 2] 26)).alloc (.cells #[.int .i64 3, .string ⟨#[120]⟩, .int .i64 0, .slice (some ⟨w.heap.size + 1 + 1 + 1 + 1, 0, none⟩) 1 1] 26)).alloc (.cells #[.int .i64 2, .string ⟨#[120]⟩, .int .i64 0, .slice none 0 0] 26)).alloc (.cells #[.int .i64 10, .string ⟨#[]⟩, .int .i64 0, .slice (some ⟨w.heap.size + 1 + 1 + 1 + 1 + 1 + 1, 0, none⟩) 1 1] 26)).alloc (.cells #[.int .i64 10, .string ⟨#[]⟩, .int .i64 0, .slice (some ⟨w.heap.size + 1 + 1 + 1 + 1 + 1 + 1, 0, none⟩) 1 1, .int .i64 1, .string ⟨#[]⟩, .int .i64 1, .slice none 0 0] 26)).alloc (.cells #[.int .i64 9, .string ⟨#[121]⟩, .int .i64 0, .slice (some ⟨w.heap.size + 1 + 1 + 1 + 1 + 1 + 1 + 1 + 1, 0, none⟩) 2 2] 26)) (w.heap.size + 1 + 1 + 1 + 1 + 1 + 1 + 1 + 1 + 1) #[.int .i64 9, .string ⟨#[121]⟩, .int .i64 0, .slice (some ⟨w.heap.size + 1 + 1 + 1 + 1 + 1 + 1 + 1 + 1, 0, none⟩) 2 2] 26 := Own.at_alloc s9 _ _
  have M0 := (show Own ((w.alloc (.cells #[.int .i64 2, .string ⟨#[120]⟩, .int .i64 0, .slice none 0 0] 26)).alloc (.cells #[.int .i64 1, .string ⟨#[]⟩, .int .i64 1, .slice none 0 0] 26)) (w.heap.size) #[.int .i64 2, .string ⟨#[120]⟩, .int .i64 0, .slice none 0 0] 26 from (N0.alloc _))
  have m00 := M0.cell 0
  have m01 := M0.cell 1
  have m02 := M0.cell 2
  have m03 := M0.cell 3
  have M1 := (show Own ((w.alloc (.cells #[.int .i64 2, .string ⟨#[120]⟩, .int .i64 0, .slice none 0 0] 26)).alloc (.cells #[.int .i64 1, .string ⟨#[]⟩, .int .i64 1, .slice none 0 0] 26)) (w.heap.size + 1) #[.int .i64 1, .string ⟨#[]⟩, .int .i64 1, .slice none 0 0] 26 from N1)
  have m10 := M1.cell 0
  have m11 := M1.cell 1
  have m12 := M1.cell 2
  have m13 := M1.cell 3
  have M2 := (show Own ((((w.alloc (.cells #[.int .i64 2, .string ⟨#[120]⟩, .int .i64 0, .slice none 0 0] 26)).alloc (.cells #[.int .i64 1, .string ⟨#[]⟩, .int .i64 1, .slice none 0 0] 26)).alloc (.cells #[.int .i64 2, .string ⟨#[120]⟩, .int .i64 0, .slice none 0 0, .int .i64 1, .string ⟨#[]⟩, .int .i64 1, .slice none 0 0] 26)).alloc (.cells #[.int .i64 12, .string ⟨#[43]⟩, .int .i64 0, .slice (some ⟨w.heap.size + 1 + 1, 0, none⟩) 2 2] 26)) (w.heap.size + 1 + 1 + 1) #[.int .i64 12, .string ⟨#[43]⟩, .int .i64 0, .slice (some ⟨w.heap.size + 1 + 1, 0, none⟩) 2 2] 26 from N3)
  have m20 := M2.cell 0
  have m21 := M2.cell 1
  have m22 := M2.cell 2
  have m23 := M2.cell 3
  have M3 := (show Own ((((((w.alloc (.cells #[.int .i64 2, .string ⟨#[120]⟩, .int .i64 0, .slice none 0 0] 26)).alloc (.cells #[.int .i64 1, .string ⟨#[]⟩, .int .i64 1, .slice none 0 0] 26)).alloc (.cells #[.int .i64 2, .string ⟨#[120]⟩, .int .i64 0, .slice none 0 0, .int .i64 1, .string ⟨#[]⟩, .int .i64 1, .slice none 0 0] 26)).alloc (.cells #[.int .i64 12, .string ⟨#[43]⟩, .int .i64 0, .slice (some ⟨w.heap.size + 1 + 1, 0, none⟩) 2 2] 26)).alloc (.cells #[.int .i64 12, .string ⟨#[43]⟩, .int .i64 0, .slice (some ⟨w.heap.size + 1 + 1, 0, none⟩) 2 2] 26)).alloc (.cells #[.int .i64 3, .string ⟨#[120]⟩, .int .i64 0, .slice (some ⟨w.heap.size + 1 + 1 + 1 + 1, 0, none⟩) 1 1] 26)) (w.heap.size) #[.int .i64 2, .string ⟨#[120]⟩, .int .i64 0, .slice none 0 0] 26 from (((((N0.alloc _).alloc _).alloc _).alloc _).alloc _))
  have m30 := M3.cell 0
  have m31 := M3.cell 1
  have m32 := M3.cell 2
  have m33 := M3.cell 3
  have M4 := (show Own ((((((((w.alloc (.cells #[.int .i64 2, .string ⟨#[120]⟩, .int .i64 0, .slice none 0 0] 26)).alloc (.cells #[.int .i64 1, .string ⟨#[]⟩, .int .i64 1, .slice none 0 0] 26)).alloc (.cells #[.int .i64 2, .string ⟨#[120]⟩, .int .i64 0, .slice none 0 0, .int .i64 1, .string ⟨#[]⟩, .int .i64 1, .slice none 0 0] 26)).alloc (.cells #[.int .i64 12, .string ⟨#[43]⟩, .int .i64 0, .slice (some ⟨w.heap.size + 1 + 1, 0, none⟩) 2 2] 26)).alloc (.cells #[.int .i64 12, .string ⟨#[43]⟩, .int .i64 0, .slice (some ⟨w.heap.size + 1 + 1, 0, none⟩) 2 2] 26)).alloc (.cells #[.int .i64 3, .string ⟨#[120]⟩, .int .i64 0, .slice (some ⟨w.heap.size + 1 + 1 + 1 + 1, 0, none⟩) 1 1] 26)).alloc (.cells #[.int .i64 2, .string ⟨#[120]⟩, .int .i64 0, .slice none 0 0] 26)).alloc (.cells #[.int .i64 10, .string ⟨#[]⟩, .int .i64 0, .slice (some ⟨w.heap.size + 1 + 1 + 1 + 1 + 1 + 1, 0, none⟩) 1 1] 26)) (w.heap.size + 1 + 1 + 1 + 1 + 1 + 1 + 1) #[.int .i64 10, .string ⟨#[]⟩, .int .i64 0, .slice (some ⟨w.heap.size + 1 + 1 + 1 + 1 + 1 + 1, 0, none⟩) 1 1] 26 from N7)
  have m40 := M4.cell 0
  have m41 := M4.cell 1
  have m42 := M4.cell 2
  have m43 := M4.cell 3
  have M5 := (show Own ((((((((w.alloc (.cells #[.int .i64 2, .string ⟨#[120]⟩, .int .i64 0, .slice none 0 0] 26)).alloc (.cells #[.int .i64 1, .string ⟨#[]⟩, .int .i64 1, .slice none 0 0] 26)).alloc (.cells #[.int .i64 2, .string ⟨#[120]⟩, .int .i64 0, .slice none 0 0, .int .i64 1, .string ⟨#[]⟩, .int .i64 1, .slice none 0 0] 26)).alloc (.cells #[.int .i64 12, .string ⟨#[43]⟩, .int .i64 0, .slice (some ⟨w.heap.size + 1 + 1, 0, none⟩) 2 2] 26)).alloc (.cells #[.int .i64 12, .string ⟨#[43]⟩, .int .i64 0, .slice (some ⟨w.heap.size + 1 + 1, 0, none⟩) 2 2] 26)).alloc (.cells #[.int .i64 3, .string ⟨#[120]⟩, .int .i64 0, .slice (some ⟨w.heap.size + 1 + 1 + 1 + 1, 0, none⟩) 1 1] 26)).alloc (.cells #[.int .i64 2, .string ⟨#[120]⟩, .int .i64 0, .slice none 0 0] 26)).alloc (.cells #[.int .i64 10, .string ⟨#[]⟩, .int .i64 0, .slice (some ⟨w.heap.size + 1 + 1 + 1 + 1 + 1 + 1, 0, none⟩) 1 1] 26)) (w.heap.size + 1) #[.int .i64 1, .string ⟨#[]⟩, .int .i64 1, .slice none 0 0] 26 from ((((((N1.alloc _).alloc _).alloc _).alloc _).alloc _).alloc _))
  have m50 := M5.cell 0
  have m51 := M5.cell 1
  have m52 := M5.cell 2
  have m53 := M5.cell 3
  obtain ⟨W9, hW9⟩ : ∃ W, W = ((((((((((w.alloc (.cells #[.int .i64 2, .string ⟨#[120]⟩, .int .i64 0, .slice none 0 0] 26)).alloc (.cells #[.int .i64 1, .string ⟨#[]⟩, .int .i64 1, .slice none 0 0] 26)).alloc (.cells #[.int .i64 2, .string ⟨#[120]⟩, .int .i64 0, .slice none 0 0, .int .i64 1, .string ⟨#[]⟩, .int .i64 1, .slice none 0 0] 26)).alloc (.cells #[.int .i64 12, .string ⟨#[43]⟩, .int .i64 0, .slice (some ⟨w.heap.size + 1 + 1, 0, none⟩) 2 2] 26)).alloc (.cells #[.int .i64 12, .string ⟨#[43]⟩, .int .i64 0, .slice (some ⟨w.heap.size + 1 + 1, 0, none⟩) 2 2] 26)).alloc (.cells #[.int .i64 3, .string ⟨#[120]⟩, .int .i64 0, .slice (some ⟨w.heap.size + 1 + 1 + 1 + 1, 0, none⟩) 1 1] 26)).alloc (.cells #[.int .i64 2, .string ⟨#[120]⟩, .int .i64 0, .slice none 0 0] 26)).alloc (.cells #[.int .i64 10, .string ⟨#[]⟩, .int .i64 0, .slice (some ⟨w.heap.size + 1 + 1 + 1 + 1 + 1 + 1, 0, none⟩) 1 1] 26)).alloc (.cells #[.int .i64 10, .string ⟨#[]⟩, .int .i64 0, .slice (some ⟨w.heap.size + 1 + 1 + 1 + 1 + 1 + 1, 0, none⟩) 1 1, .int .i64 1, .string ⟨#[]⟩, .int .i64 1, .slice none 0 0] 26)).alloc (.cells #[.int .i64 9, .string ⟨#[121]⟩, .int .i64 0, .slice (some ⟨w.heap.size + 1 + 1 + 1 + 1 + 1 + 1 + 1 + 1, 0, none⟩) 2 2] 26)) := ⟨_, rfl⟩
  have hbA : Below w.heap.size w W9 := by rw [hW9]; exact below_alloc' (below_alloc' (below_alloc' (below_alloc' (below_alloc' (below_alloc' (below_alloc' (below_alloc' (below_alloc' (below_alloc' (Below.refl _ _) _) _) _) _) _) _) _) _) _) _
  have P1 : Own W9 (w.heap.size + 1) #[.int .i64 1, .string ⟨#[]⟩, .int .i64 1, .slice none 0 0] 26 := by rw [hW9]; exact (show Own ((((((((((w.alloc (.cells #[.int .i64 2, .string ⟨#[120]⟩, .int .i64 0, .slice none 0 0] 26)).alloc (.cells #[.int .i64 1, .string ⟨#[]⟩, .int .i64 1, .slice none 0 0] 26)).alloc (.cells #[.int .i64 2, .string ⟨#[120]⟩, .int .i64 0, .slice none 0 0, .int .i64 1, .string ⟨#[]⟩, .int .i64 1, .slice none 0 0] 26)).alloc (.cells #[.int .i64 12, .string ⟨#[43]⟩, .int .i64 0, .slice (some ⟨w.heap.size + 1 + 1, 0, none⟩) 2 2] 26)).alloc (.cells #[.int .i64 12, .string ⟨#[43]⟩, .int .i64 0, .slice (some ⟨w.heap.size + 1 + 1, 0, none⟩) 2 2] 26)).alloc (.cells #[.int .i64 3, .string ⟨#[120]⟩, .int .i64 0, .slice (some ⟨w.heap.size + 1 + 1 + 1 + 1, 0, none⟩) 1 1] 26)).alloc (.cells #[.int .i64 2, .string ⟨#[120]⟩, .int .i64 0, .slice none 0 0] 26)).alloc (.cells #[.int .i64 10, .string ⟨#[]⟩, .int .i64 0, .slice (some ⟨w.heap.size + 1 + 1 + 1 + 1 + 1 + 1, 0, none⟩) 1 1] 26)).alloc (.cells #[.int .i64 10, .string ⟨#[]⟩, .int .i64 0, .slice (some ⟨w.heap.size + 1 + 1 + 1 + 1 + 1 + 1, 0, none⟩) 1 1, .int .i64 1, .string ⟨#[]⟩, .int .i64 1, .slice none 0 0] 26)).alloc (.cells #[.int .i64 9, .string ⟨#[121]⟩, .int .i64 0, .slice (some ⟨w.heap.size + 1 + 1 + 1 + 1 + 1 + 1 + 1 + 1, 0, none⟩) 2 2] 26)) (w.heap.size + 1) #[.int .i64 1, .string ⟨#[]⟩, .int .i64 1, .slice none 0 0] 26 from ((((((((N1.alloc _).alloc _).alloc _).alloc _).alloc _).alloc _).alloc _).alloc _))
  have P2 : Own W9 (w.heap.size + 1 + 1) #[.int .i64 2, .string ⟨#[120]⟩, .int .i64 0, .slice none 0 0, .int .i64 1, .string ⟨#[]⟩, .int .i64 1, .slice none 0 0] 26 := by rw [hW9]; exact (show Own ((((((((((w.alloc (.cells #[.int .i64 2, .string ⟨#[120]⟩, .int .i64 0, .slice none 0 0] 26)).alloc (.cells #[.int .i64 1, .string ⟨#[]⟩, .int .i64 1, .slice none 0 0] 26)).alloc (.cells #[.int .i64 2, .string ⟨#[120]⟩, .int .i64 0, .slice none 0 0, .int .i64 1, .string ⟨#[]⟩, .int .i64 1, .slice none 0 0] 26)).alloc (.cells #[.int .i64 12, .string ⟨#[43]⟩, .int .i64 0, .slice (some ⟨w.heap.size + 1 + 1, 0, none⟩) 2 2] 26)).alloc (.cells #[.int .i64 12, .string ⟨#[43]⟩, .int .i64 0, .slice (some ⟨w.heap.size + 1 + 1, 0, none⟩) 2 2] 26)).alloc (.cells #[.int .i64 3, .string ⟨#[120]⟩, .int .i64 0, .slice (some ⟨w.heap.size + 1 + 1 + 1 + 1, 0, none⟩) 1 1] 26)).alloc (.cells #[.int .i64 2, .string ⟨#[120]⟩, .int .i64 0, .slice none 0 0] 26)).alloc (.cells #[.int .i64 10, .string ⟨#[]⟩, .int .i64 0, .slice (some ⟨w.heap.size + 1 + 1 + 1 + 1 + 1 + 1, 0, none⟩) 1 1] 26)).alloc (.cells #[.int .i64 10, .string ⟨#[]⟩, .int .i64 0, .slice (some ⟨w.heap.size + 1 + 1 + 1 + 1 + 1 + 1, 0, none⟩) 1 1, .int .i64 1, .string ⟨#[]⟩, .int .i64 1, .slice none 0 0] 26)).alloc (.cells #[.int .i64 9, .string ⟨#[121]⟩, .int .i64 0, .slice (some ⟨w.heap.size + 1 + 1 + 1 + 1 + 1 + 1 + 1 + 1, 0, none⟩) 2 2] 26)) (w.heap.size + 1 + 1) #[.int .i64 2, .string ⟨#[120]⟩, .int .i64 0, .slice none 0 0, .int .i64 1, .string ⟨#[]⟩, .int .i64 1, .slice none 0 0] 26 from (((((((N2.alloc _).alloc _).alloc _).alloc _).alloc _).alloc _).alloc _))
  have P4 : Own W9 (w.heap.size + 1 + 1 + 1 + 1) #[.int .i64 12, .string ⟨#[43]⟩, .int .i64 0, .slice (some ⟨w.heap.size + 1 + 1, 0, none⟩) 2 2] 26 := by rw [hW9]; exact (show Own ((((((((((w.alloc (.cells #[.int .i64 2, .string ⟨#[120]⟩, .int .i64 0, .slice none 0 0] 26)).alloc (.cells #[.int .i64 1, .string ⟨#[]⟩, .int .i64 1, .slice none 0 0] 26)).alloc (.cells #[.int .i64 2, .string ⟨#[120]⟩, .int .i64 0, .slice none 0 0, .int .i64 1, .string ⟨#[]⟩, .int .i64 1, .slice none 0 0] 26)).alloc (.cells #[.int .i64 12, .string ⟨#[43]⟩, .int .i64 0, .slice (some ⟨w.heap.size + 1 + 1, 0, none⟩) 2 2] 26)).alloc (.cells #[.int .i64 12, .string ⟨#[43]⟩, .int .i64 0, .slice (some ⟨w.heap.size + 1 + 1, 0, none⟩) 2 2] 26)).alloc (.cells #[.int .i64 3, .string ⟨#[120]⟩, .int .i64 0, .slice (some ⟨w.heap.size + 1 + 1 + 1 + 1, 0, none⟩) 1 1] 26)).alloc (.cells #[.int .i64 2, .string ⟨#[120]⟩, .int .i64 0, .slice none 0 0] 26)).alloc (.cells #[.int .i64 10, .string ⟨#[]⟩, .int .i64 0, .slice (some ⟨w.heap.size + 1 + 1 + 1 + 1 + 1 + 1, 0, none⟩) 1 1] 26)).alloc (.cells #[.int .i64 10, .string ⟨#[]⟩, .int .i64 0, .slice (some ⟨w.heap.size + 1 + 1 + 1 + 1 + 1 + 1, 0, none⟩) 1 1, .int .i64 1, .string ⟨#[]⟩, .int .i64 1, .slice none 0 0] 26)).alloc (.cells #[.int .i64 9, .string ⟨#[121]⟩, .int .i64 0, .slice (some ⟨w.heap.size + 1 + 1 + 1 + 1 + 1 + 1 + 1 + 1, 0, none⟩) 2 2] 26)) (w.heap.size + 1 + 1 + 1 + 1) #[.int .i64 12, .string ⟨#[43]⟩, .int .i64 0, .slice (some ⟨w.heap.size + 1 + 1, 0, none⟩) 2 2] 26 from (((((N4.alloc _).alloc _).alloc _).alloc _).alloc _))
  have P5 : Own W9 (w.heap.size + 1 + 1 + 1 + 1 + 1) #[.int .i64 3, .string ⟨#[120]⟩, .int .i64 0, .slice (some ⟨w.heap.size + 1 + 1 + 1 + 1, 0, none⟩) 1 1] 26 := by rw [hW9]; exact (show Own ((((((((((w.alloc (.cells #[.int .i64 2, .string ⟨#[120]⟩, .int .i64 0, .slice none 0 0] 26)).alloc (.cells #[.int .i64 1, .string ⟨#[]⟩, .int .i64 1, .slice none 0 0] 26)).alloc (.cells #[.int .i64 2, .string ⟨#[120]⟩, .int .i64 0, .slice none 0 0, .int .i64 1, .string ⟨#[]⟩, .int .i64 1, .slice none 0 0] 26)).alloc (.cells #[.int .i64 12, .string ⟨#[43]⟩, .int .i64 0, .slice (some ⟨w.heap.size + 1 + 1, 0, none⟩) 2 2] 26)).alloc (.cells #[.int .i64 12, .string ⟨#[43]⟩, .int .i64 0, .slice (some ⟨w.heap.size + 1 + 1, 0, none⟩) 2 2] 26)).alloc (.cells #[.int .i64 3, .string ⟨#[120]⟩, .int .i64 0, .slice (some ⟨w.heap.size + 1 + 1 + 1 + 1, 0, none⟩) 1 1] 26)).alloc (.cells #[.int .i64 2, .string ⟨#[120]⟩, .int .i64 0, .slice none 0 0] 26)).alloc (.cells #[.int .i64 10, .string ⟨#[]⟩, .int .i64 0, .slice (some ⟨w.heap.size + 1 + 1 + 1 + 1 + 1 + 1, 0, none⟩) 1 1] 26)).alloc (.cells #[.int .i64 10, .string ⟨#[]⟩, .int .i64 0, .slice (some ⟨w.heap.size + 1 + 1 + 1 + 1 + 1 + 1, 0, none⟩) 1 1, .int .i64 1, .string ⟨#[]⟩, .int .i64 1, .slice none 0 0] 26)).alloc (.cells #[.int .i64 9, .string ⟨#[121]⟩, .int .i64 0, .slice (some ⟨w.heap.size + 1 + 1 + 1 + 1 + 1 + 1 + 1 + 1, 0, none⟩) 2 2] 26)) (w.heap.size + 1 + 1 + 1 + 1 + 1) #[.int .i64 3, .string ⟨#[120]⟩, .int .i64 0, .slice (some ⟨w.heap.size + 1 + 1 + 1 + 1, 0, none⟩) 1 1] 26 from ((((N5.alloc _).alloc _).alloc _).alloc _))
  have P6 : Own W9 (w.heap.size + 1 + 1 + 1 + 1 + 1 + 1) #[.int .i64 2, .string ⟨#[120]⟩, .int .i64 0, .slice none 0 0] 26 := by rw [hW9]; exact (show Own ((((((((((w.alloc (.cells #[.int .i64 2, .string ⟨#[120]⟩, .int .i64 0, .slice none 0 0] 26)).alloc (.cells #[.int .i64 1, .string ⟨#[]⟩, .int .i64 1, .slice none 0 0] 26)).alloc (.cells #[.int .i64 2, .string ⟨#[120]⟩, .int .i64 0, .slice none 0 0, .int .i64 1, .string ⟨#[]⟩, .int .i64 1, .slice none 0 0] 26)).alloc (.cells #[.int .i64 12, .string ⟨#[43]⟩, .int .i64 0, .slice (some ⟨w.heap.size + 1 + 1, 0, none⟩) 2 2] 26)).alloc (.cells #[.int .i64 12, .string ⟨#[43]⟩, .int .i64 0, .slice (some ⟨w.heap.size + 1 + 1, 0, none⟩) 2 2] 26)).alloc (.cells #[.int .i64 3, .string ⟨#[120]⟩, .int .i64 0, .slice (some ⟨w.heap.size + 1 + 1 + 1 + 1, 0, none⟩) 1 1] 26)).alloc (.cells #[.int .i64 2, .string ⟨#[120]⟩, .int .i64 0, .slice none 0 0] 26)).alloc (.cells #[.int .i64 10, .string ⟨#[]⟩, .int .i64 0, .slice (some ⟨w.heap.size + 1 + 1 + 1 + 1 + 1 + 1, 0, none⟩) 1 1] 26)).alloc (.cells #[.int .i64 10, .string ⟨#[]⟩, .int .i64 0, .slice (some ⟨w.heap.size + 1 + 1 + 1 + 1 + 1 + 1, 0, none⟩) 1 1, .int .i64 1, .string ⟨#[]⟩, .int .i64 1, .slice none 0 0] 26)).alloc (.cells #[.int .i64 9, .string ⟨#[121]⟩, .int .i64 0, .slice (some ⟨w.heap.size + 1 + 1 + 1 + 1 + 1 + 1 + 1 + 1, 0, none⟩) 2 2] 26)) (w.heap.size + 1 + 1 + 1 + 1 + 1 + 1) #[.int .i64 2, .string ⟨#[120]⟩, .int .i64 0, .slice none 0 0] 26 from (((N6.alloc _).alloc _).alloc _))
  have P8 : Own W9 (w.heap.size + 1 + 1 + 1 + 1 + 1 + 1 + 1 + 1) #[.int .i64 10, .string ⟨#[]⟩, .int .i64 0, .slice (some ⟨w.heap.size + 1 + 1 + 1 + 1 + 1 + 1, 0, none⟩) 1 1, .int .i64 1, .string ⟨#[]⟩, .int .i64 1, .slice none 0 0] 26 := by rw [hW9]; exact (show Own ((((((((((w.alloc (.cells #[.int .i64 2, .string ⟨#[120]⟩, .int .i64 0, .slice none 0 0] 26)).alloc (.cells #[.int .i64 1, .string ⟨#[]⟩, .int .i64 1, .slice none 0 0] 26)).alloc (.cells #[.int .i64 2, .string ⟨#[120]⟩, .int .i64 0, .slice none 0 0, .int .i64 1, .string ⟨#[]⟩, .int .i64 1, .slice none 0 0] 26)).alloc (.cells #[.int .i64 12, .string ⟨#[43]⟩, .int .i64 0, .slice (some ⟨w.heap.size + 1 + 1, 0, none⟩) 2 2] 26)).alloc (.cells #[.int .i64 12, .string ⟨#[43]⟩, .int .i64 0, .slice (some ⟨w.heap.size + 1 + 1, 0, none⟩) 2 2] 26)).alloc (.cells #[.int .i64 3, .string ⟨#[120]⟩, .int .i64 0, .slice (some ⟨w.heap.size + 1 + 1 + 1 + 1, 0, none⟩) 1 1] 26)).alloc (.cells #[.int .i64 2, .string ⟨#[120]⟩, .int .i64 0, .slice none 0 0] 26)).alloc (.cells #[.int .i64 10, .string ⟨#[]⟩, .int .i64 0, .slice (some ⟨w.heap.size + 1 + 1 + 1 + 1 + 1 + 1, 0, none⟩) 1 1] 26)).alloc (.cells #[.int .i64 10, .string ⟨#[]⟩, .int .i64 0, .slice (some ⟨w.heap.size + 1 + 1 + 1 + 1 + 1 + 1, 0, none⟩) 1 1, .int .i64 1, .string ⟨#[]⟩, .int .i64 1, .slice none 0 0] 26)).alloc (.cells #[.int .i64 9, .string ⟨#[121]⟩, .int .i64 0, .slice (some ⟨w.heap.size + 1 + 1 + 1 + 1 + 1 + 1 + 1 + 1, 0, none⟩) 2 2] 26)) (w.heap.size + 1 + 1 + 1 + 1 + 1 + 1 + 1 + 1) #[.int .i64 10, .string ⟨#[]⟩, .int .i64 0, .slice (some ⟨w.heap.size + 1 + 1 + 1 + 1 + 1 + 1, 0, none⟩) 1 1, .int .i64 1, .string ⟨#[]⟩, .int .i64 1, .slice none 0 0] 26 from (N8.alloc _))
  have P9 : Own W9 (w.heap.size + 1 + 1 + 1 + 1 + 1 + 1 + 1 + 1 + 1) #[.int .i64 9, .string ⟨#[121]⟩, .int .i64 0, .slice (some ⟨w.heap.size + 1 + 1 + 1 + 1 + 1 + 1 + 1 + 1, 0, none⟩) 2 2] 26 := by rw [hW9]; exact (show Own ((((((((((w.alloc (.cells #[.int .i64 2, .string ⟨#[120]⟩, .int .i64 0, .slice none 0 0] 26)).alloc (.cells #[.int .i64 1, .string ⟨#[]⟩, .int .i64 1, .slice none 0 0] 26)).alloc (.cells #[.int .i64 2, .string ⟨#[120]⟩, .int .i64 0, .slice none 0 0, .int .i64 1, .string ⟨#[]⟩, .int .i64 1, .slice none 0 0] 26)).alloc (.cells #[.int .i64 12, .string ⟨#[43]⟩, .int .i64 0, .slice (some ⟨w.heap.size + 1 + 1, 0, none⟩) 2 2] 26)).alloc (.cells #[.int .i64 12, .string ⟨#[43]⟩, .int .i64 0, .slice (some ⟨w.heap.size + 1 + 1, 0, none⟩) 2 2] 26)).alloc (.cells #[.int .i64 3, .string ⟨#[120]⟩, .int .i64 0, .slice (some ⟨w.heap.size + 1 + 1 + 1 + 1, 0, none⟩) 1 1] 26)).alloc (.cells #[.int .i64 2, .string ⟨#[120]⟩, .int .i64 0, .slice none 0 0] 26)).alloc (.cells #[.int .i64 10, .string ⟨#[]⟩, .int .i64 0, .slice (some ⟨w.heap.size + 1 + 1 + 1 + 1 + 1 + 1, 0, none⟩) 1 1] 26)).alloc (.cells #[.int .i64 10, .string ⟨#[]⟩, .int .i64 0, .slice (some ⟨w.heap.size + 1 + 1 + 1 + 1 + 1 + 1, 0, none⟩) 1 1, .int .i64 1, .string ⟨#[]⟩, .int .i64 1, .slice none 0 0] 26)).alloc (.cells #[.int .i64 9, .string ⟨#[121]⟩, .int .i64 0, .slice (some ⟨w.heap.size + 1 + 1 + 1 + 1 + 1 + 1 + 1 + 1, 0, none⟩) 2 2] 26)) (w.heap.size + 1 + 1 + 1 + 1 + 1 + 1 + 1 + 1 + 1) #[.int .i64 9, .string ⟨#[121]⟩, .int .i64 0, .slice (some ⟨w.heap.size + 1 + 1 + 1 + 1 + 1 + 1 + 1 + 1, 0, none⟩) 2 2] 26 from N9)
  have tx : TmR W9 e4x (.agg #[.int .i64 2, .string ⟨#[120]⟩, .int .i64 0, .slice none 0 0]) := ⟨none, 0, rfl, Nat.le_refl _, C_nil _⟩
  have tn : TmR W9 e4o (.agg #[.int .i64 1, .string ⟨#[]⟩, .int .i64 1, .slice none 0 0]) := ⟨none, 0, rfl, Nat.le_refl _, C_nil _⟩
  have ta : TmR W9 e4a (.agg #[.int .i64 12, .string ⟨#[43]⟩, .int .i64 0, .slice (some ⟨w.heap.size + 1 + 1, 0, none⟩) 2 2]) := TmR.kids2 12 ⟨#[43]⟩ tx tn P2
  have Vf := Lib.hid (show TmR W9 e4f (.agg #[.int .i64 3, .string ⟨#[120]⟩, .int .i64 0, .slice (some ⟨w.heap.size + 1 + 1 + 1 + 1, 0, none⟩) 1 1]) from TmR.kids1 3 ⟨#[120]⟩ ta P4)
  have tg : TmR W9 e4g (.agg #[.int .i64 10, .string ⟨#[]⟩, .int .i64 0, .slice (some ⟨w.heap.size + 1 + 1 + 1 + 1 + 1 + 1, 0, none⟩) 1 1]) := TmR.kids1 10 noName tx P6
  have Vt := Lib.hid (show TmR W9 e4t (.agg #[.int .i64 9, .string ⟨#[121]⟩, .int .i64 0, .slice (some ⟨w.heap.size + 1 + 1 + 1 + 1 + 1 + 1 + 1 + 1, 0, none⟩) 2 2]) from TmR.kids2 9 ⟨#[121]⟩ tg tn P8)
  have Vo := Lib.hid tn
  have Of := Lib.hid P5
  have Ot := Lib.hid P9
  have Oo := Lib.hid P1
  have HG := Lib.hid (hG.below hbA)
  have HB := Lib.hid hbA
  clear hG hbA P1 P2 P4 P5 P6 P8 P9 tx tn ta tg N0 N1 N2 N3 N4 N5 N6 N7 N8 N9 M0 M1 M2 M3 M4 M5 s0 s1 s2 s3 s4 s5 s6 s7 s8 s9
  skip
  subst hW9
  have K := Lib.hid (showG e4f _ e4f_show _ _ Vf.out (by kernel_rfl) (by decide +kernel) HG.out)
  have cf0 := Of.out.cell 0
  have cf1 := Of.out.cell 1
  have cf2 := Of.out.cell 2
  have cf3 := Of.out.cell 3
  go_enter Tryd.func4, Tryd.ntmps4
  go_wp2_with fail
  clear cf0 cf1 cf2 cf3
  clear m00 m01 m02 m03 m10 m11 m12 m13 m20 m21 m22 m23 m30 m31 m32 m33 m40 m41 m42 m43 m50 m51 m52 m53
  refine K.out.mono ?_
  rintro e w10 ⟨rfl, hb⟩
  clear K
  have hmv := hb
  have HG := Lib.hid (HG.out.below hmv)
  have HB := Lib.hid (HB.out.trans (hmv.mono HB.out.size))
  have Vf := Lib.hid (Vf.out.below hmv)
  have Of := Lib.hid (show Own _ _ _ _ from blk_below Of.out hmv)
  have Vt := Lib.hid (Vt.out.below hmv)
  have Ot := Lib.hid (show Own _ _ _ _ from blk_below Ot.out hmv)
  have Vo := Lib.hid (Vo.out.below hmv)
  have Oo := Lib.hid (show Own _ _ _ _ from blk_below Oo.out hmv)
  clear hmv
  clear hb
  have K := Lib.hid (showG e4t _ e4t_show _ _ Vt.out (by kernel_rfl) (by decide +kernel) HG.out)
  have ct0 := Ot.out.cell 0
  have ct1 := Ot.out.cell 1
  have ct2 := Ot.out.cell 2
  have ct3 := Ot.out.cell 3
  go_wp2_with fail
  clear ct0 ct1 ct2 ct3
  refine K.out.mono ?_
  rintro e w11 ⟨rfl, hb⟩
  clear K
  have hmv := hb
  have HG := Lib.hid (HG.out.below hmv)
  have HB := Lib.hid (HB.out.trans (hmv.mono HB.out.size))
  have Vf := Lib.hid (Vf.out.below hmv)
  have Of := Lib.hid (show Own _ _ _ _ from blk_below Of.out hmv)
  have Vt := Lib.hid (Vt.out.below hmv)
  have Ot := Lib.hid (show Own _ _ _ _ from blk_below Ot.out hmv)
  have Vo := Lib.hid (Vo.out.below hmv)
  have Oo := Lib.hid (show Own _ _ _ _ from blk_below Oo.out hmv)
  clear hmv
  clear hb
  have K := Lib.hid (showG zTm _ e4z_show _ _ (⟨none, 0, rfl, Nat.le_refl _, C_nil _⟩ : TmR _ zTm (.agg #[.int .i64 0, .string ⟨#[]⟩, .int .i64 0, .slice none 0 0])) (by kernel_rfl) (by decide +kernel) HG.out)
  go_wp2_with fail
  refine K.out.mono ?_
  rintro e w12 ⟨rfl, hb⟩
  clear K
  have hmv := hb
  have HG := Lib.hid (HG.out.below hmv)
  have HB := Lib.hid (HB.out.trans (hmv.mono HB.out.size))
  have Vf := Lib.hid (Vf.out.below hmv)
  have Of := Lib.hid (show Own _ _ _ _ from blk_below Of.out hmv)
  have Vt := Lib.hid (Vt.out.below hmv)
  have Ot := Lib.hid (show Own _ _ _ _ from blk_below Ot.out hmv)
  have Vo := Lib.hid (Vo.out.below hmv)
  have Oo := Lib.hid (show Own _ _ _ _ from blk_below Oo.out hmv)
  clear hmv
  clear hb
  have K := Lib.hid (showToksG e4f _ e4f_toks _ _ Vf.out (by kernel_rfl) (by decide +kernel) HG.out)
  have cf0 := Of.out.cell 0
  have cf1 := Of.out.cell 1
  have cf2 := Of.out.cell 2
  have cf3 := Of.out.cell 3
  go_wp2_with fail
  clear cf0 cf1 cf2 cf3
  refine K.out.mono ?_
  rintro e w13 ⟨A1, c1, rfl, hr1, hb⟩
  clear K
  have hmv := hb
  have HG := Lib.hid (HG.out.below hmv)
  have HB := Lib.hid (HB.out.trans (hmv.mono HB.out.size))
  have Vf := Lib.hid (Vf.out.below hmv)
  have Of := Lib.hid (show Own _ _ _ _ from blk_below Of.out hmv)
  have Vt := Lib.hid (Vt.out.below hmv)
  have Ot := Lib.hid (show Own _ _ _ _ from blk_below Ot.out hmv)
  have Vo := Lib.hid (Vo.out.below hmv)
  have Oo := Lib.hid (show Own _ _ _ _ from blk_below Oo.out hmv)
  clear hmv
  clear hb
  clear hr1
  have K := Lib.hid (showToksG e4f _ e4f_toks _ _ Vf.out (by kernel_rfl) (by decide +kernel) HG.out)
  have cf0 := Of.out.cell 0
  have cf1 := Of.out.cell 1
  have cf2 := Of.out.cell 2
  have cf3 := Of.out.cell 3
  go_wp2_with fail
  clear cf0 cf1 cf2 cf3
  refine K.out.mono ?_
  rintro e w14 ⟨A2, c2, rfl, hr2, hb⟩
  clear K
  have hmv := hb
  have HG := Lib.hid (HG.out.below hmv)
  have HB := Lib.hid (HB.out.trans (hmv.mono HB.out.size))
  have Vf := Lib.hid (Vf.out.below hmv)
  have Of := Lib.hid (show Own _ _ _ _ from blk_below Of.out hmv)
  have Vt := Lib.hid (Vt.out.below hmv)
  have Ot := Lib.hid (show Own _ _ _ _ from blk_below Ot.out hmv)
  have Vo := Lib.hid (Vo.out.below hmv)
  have Oo := Lib.hid (show Own _ _ _ _ from blk_below Oo.out hmv)
  clear hmv
  clear hb
  have K := Lib.hid (lexRightG (toksS e4f) _ e4f_toks e4f_right A2 c2 _ hr2 HG.out)
  go_wp2_with fail
  refine K.out.mono ?_
  rintro e w15 ⟨rfl, hb⟩
  clear K
  have hmv := hb
  have HG := Lib.hid (HG.out.below hmv)
  have HB := Lib.hid (HB.out.trans (hmv.mono HB.out.size))
  have Vf := Lib.hid (Vf.out.below hmv)
  have Of := Lib.hid (show Own _ _ _ _ from blk_below Of.out hmv)
  have Vt := Lib.hid (Vt.out.below hmv)
  have Ot := Lib.hid (show Own _ _ _ _ from blk_below Ot.out hmv)
  have Vo := Lib.hid (Vo.out.below hmv)
  have Oo := Lib.hid (show Own _ _ _ _ from blk_below Oo.out hmv)
  clear hmv
  clear hb
  clear hr2
  have K := Lib.hid (showToksG zTm _ e4z_toks _ _ (⟨none, 0, rfl, Nat.le_refl _, C_nil _⟩ : TmR _ zTm (.agg #[.int .i64 0, .string ⟨#[]⟩, .int .i64 0, .slice none 0 0])) (by kernel_rfl) (by decide +kernel) HG.out)
  go_wp2_with fail
  refine K.out.mono ?_
  rintro e w16 ⟨A3, c3, rfl, hr3, hb⟩
  clear K
  have hmv := hb
  have HG := Lib.hid (HG.out.below hmv)
  have HB := Lib.hid (HB.out.trans (hmv.mono HB.out.size))
  have Vf := Lib.hid (Vf.out.below hmv)
  have Of := Lib.hid (show Own _ _ _ _ from blk_below Of.out hmv)
  have Vt := Lib.hid (Vt.out.below hmv)
  have Ot := Lib.hid (show Own _ _ _ _ from blk_below Ot.out hmv)
  have Vo := Lib.hid (Vo.out.below hmv)
  have Oo := Lib.hid (show Own _ _ _ _ from blk_below Oo.out hmv)
  clear hmv
  clear hb
  clear hr3
  have K := Lib.hid (showG e4o _ e4o_show _ _ Vo.out (by kernel_rfl) (by decide +kernel) HG.out)
  have co0 := Oo.out.cell 0
  have co1 := Oo.out.cell 1
  have co2 := Oo.out.cell 2
  have co3 := Oo.out.cell 3
  go_wp2_with fail
  clear co0 co1 co2 co3
  refine K.out.mono ?_
  rintro e w17 ⟨rfl, hb⟩
  clear K
  have hmv := hb
  have HG := Lib.hid (HG.out.below hmv)
  have HB := Lib.hid (HB.out.trans (hmv.mono HB.out.size))
  have Vf := Lib.hid (Vf.out.below hmv)
  have Of := Lib.hid (show Own _ _ _ _ from blk_below Of.out hmv)
  have Vt := Lib.hid (Vt.out.below hmv)
  have Ot := Lib.hid (show Own _ _ _ _ from blk_below Ot.out hmv)
  have Vo := Lib.hid (Vo.out.below hmv)
  have Oo := Lib.hid (show Own _ _ _ _ from blk_below Oo.out hmv)
  clear hmv
  clear hb
  go_wp2_with fail
  go_ret
  exact ⟨rfl, HB.out⟩
end Go.Proofs.YtchekgnacodolaaDoor.X
end

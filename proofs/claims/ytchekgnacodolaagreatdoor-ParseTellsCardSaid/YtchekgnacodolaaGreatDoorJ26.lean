-- Joined by our own program (wip/tools/prune.py) out of the seat's texts, less what this claim doesn't name.
import Derived.Deep.RegionHeld3
import Derived.Test.YtchekgnacodolaaGreatDoorJ10
import Derived.Test.YtchekgnacodolaaGreatDoorJ11
import Derived.Test.YtchekgnacodolaaGreatDoorJ20
import Derived.Test.YtchekgnacodolaaGreatDoorJ21
import Derived.Test.YtchekgnacodolaaGreatDoorJ23
set_option maxHeartbeats 4000000
set_option maxRecDepth 100000
section
namespace Go.Proofs.YtchekgnacodolaaGreatDoor.X
open Go.RowKit Go.Proofs.YtchekgnacodolaaGreatDoorW.PrintWords
set_option linter.unusedSimpArgs false
set_option linter.unusedVariables false
theorem toRs_map : ∀ l : List Tm, toRs l = l.map toR
 | [] => rfl
 | t :: r => by rw [toRs, toRs_map r]; rfl
theorem toRs_len (l : List Tm) : (toRs l).length = l.length := by rw [toRs_map, List.length_map]
theorem rdRTm_at (l : List Tm) (i : Nat) (h : i < l.length) : rd_T32 (toRs l) (i : Int) = toR l[i] := by
 unfold rd_T32; rw [toRs_map]; simp [List.getD_eq_getElem?_getD, List.getElem?_eq_getElem h]
theorem nestedF_loop (l : List TokT) (hl : l.length ≤ 1099511627776) (d : Nat) : ∀ (k i : Nat) (n m : Int), i ≤ l.length → l.length - i = d → 2 * d + 1 ≤ k → -(i : Int) ≤ n → n ≤ i → n ≤ m →
  chancelref05_nested.l0 k (l.map rT) n m (i : Int) = some ((l.drop i).foldl nestStep (n, m)).2 := by
 induction d with
 | zero =>
  intro k i n m h1 h2 h3 h4 h5 h6
  obtain ⟨k, rfl⟩ : ∃ j, k = j + 1 := ⟨k - 1, by omega⟩
  simp only [chancelref05_nested.l0]
  rw [if_neg (by rw [List.length_map]; omega), List.drop_of_length_le (by omega)]; rfl
 | succ d ih =>
  intro k i n m h1 h2 h3 h4 h5 h6
  obtain ⟨k, rfl⟩ : ∃ j, k = j + 1 + 1 := ⟨k - 2, by omega⟩
  have hlt : i < l.length := by omega
  have hlm : ((l.map rT).length : Int) = (l.length : Int) := by rw [List.length_map]
  have hf : zqy (l.map rT) (i : Int) = rT l[i] := by rw [rd_rtok (l.map rT) i (by rw [List.length_map]; exact hlt), List.getElem_map]
  have e1 : wrap64 ((i : Int) + 1) = ((i + 1 : Nat) : Int) := by rw [wrap_id (by omega) (by omega)]; rfl
  have e2 : wrap64 (n + 1) = n + 1 := wrap_id (by omega) (by omega)
  have e3 : wrap64 (n - 1) = n - 1 := wrap_id (by omega) (by omega)
  have e4 : wrap64 (n + 1 - 1) = n := by rw [wrap_id (by omega) (by omega)]; omega
  have ihn := fun (n m : Int) (h : -((i + 1 : Nat) : Int) ≤ n) (h' : n ≤ ((i + 1 : Nat) : Int)) (h'' : n ≤ m) => ih k (i + 1) n m (by omega) (by omega) (by omega) h h' h''
  have hc0 : (0 : Int) ≤ (i : Int) := by omega
  have hc1 : (i : Int) < (l.length : Int) := by omega
  simp only [chancelref05_nested.l0, chancelref05_nested.j1, hlm, hf, e1, e2, e3, e4, mx_eq]
  rw [List.drop_eq_getElem_cons hlt, List.foldl_cons]
  simp only [if_pos hc0, if_pos hc1]
  have ee : ∀ t : TokT, (rT t).f0 = t.f0 ∧ (rT t).f1 = t.f1 := fun t => ⟨rfl, rfl⟩
  simp only [(ee _).1, (ee _).2]
  generalize l[i] = t
  clear e1 e2 e3 e4 hf ee ih
  have hq : nestStep (n, m) t = (if t.f0 ≠ 4 then (n, m) else ((if t.f1.toList = [40] then n + 1 else if t.f1.toList = [41] then n - 1 else n), max m (if t.f1.toList = [40] then n + 1 else if t.f1.toList = [41] then n - 1 else n))) := by unfold nestStep; simp only [← ByteArray.toList_eq]
  rw [hq]
  clear hq
  by_cases h4' : t.f0 = 4
  ·simp only [if_pos h4', if_neg (show ¬ (t.f0 ≠ 4) from fun h => h h4')]
   by_cases h40 : t.f1.toList = [40]
   ·have h41 : ¬ ([40] : List UInt8) = [41] := by decide
    simp only [h40, h41, if_true, if_false, beq_self_eq_true]
    exact ihn (n + 1) (max m (n + 1)) (by omega) (by omega) (by omega)
   ·have h40b : (t.f1.toList == [40]) = false := by simpa using h40
    simp only [h40b, if_neg h40, Bool.false_eq_true, if_false]
    by_cases h41 : t.f1.toList = [41]
    ·simp only [if_pos h41]
     exact ihn (n - 1) (max m (n - 1)) (by omega) (by omega) (by omega)
    ·simp only [if_neg h41]
     exact ihn n (max m n) (by omega) (by omega) (by omega)
  ·simp only [if_neg h4', if_pos h4', Bool.false_eq_true, if_false]
   rw [show max m n = m by omega]
   exact ihn n m (by omega) (by omega) (by omega)
theorem nestedF_eq (l : List TokT) (hl : l.length ≤ 1099511627776) : chancelref05_nested.f (2 * l.length + 1) (l.map rT) = some (nestL l) := by
 unfold chancelref05_nested.f nestL
 have := nestedF_loop l hl l.length (2 * l.length + 1) 0 0 0 (by omega) (by omega) (by omega) (by omega) (by omega) (by omega)
 simpa using this
theorem nestFC (l : List TokT) (hl : l.length ≤ 1099511627776) (A : Option Addr) (c : Nat) (w : World) (hr : ReadsR w A c (l.map rT)) :
  Calls Tryz.prog 54 #[.slice A l.length c] w fun e w' => e = .returned (.int .i64 (nestL l)) ∧ Below w.heap.size w w' := by
 have h := chancelref05_nested.calls (2 * l.length + 1) A c (l.map rT) (nestL l) w hr.1 hr.2 (nestedF_eq l hl)
 rw [List.length_map] at h
 exact h
theorem sizeF_loop (l : List Tm) (hl : sizesT l ≤ 9223372036854775806) (ih : ∀ t ∈ l, ∀ k, 2 * sizeT t ≤ k → chancelref03_Size.f k (toR t).f0 (toR t).f1 (toR t).f2 (toR t).f3 = some (sizeT t : Int)) (x y z) (d : Nat) : ∀ (k i : Nat) (a : Nat), i ≤ l.length → l.length - i = d → 2 * sizesT (l.drop i) + 1 ≤ k → a + sizesT (l.drop i) ≤ 9223372036854775807 →
  chancelref03_Size.l0 k (a : Int) (i : Int) x y z (toRs l) = some ((a + sizesT (l.drop i) : Nat) : Int) := by
 have hlen := sizes_len l
 have hll := toRs_len l
 induction d with
 | zero =>
  intro k i a h1 h2 h3 h4
  obtain ⟨k, rfl⟩ : ∃ j, k = j + 1 := ⟨k - 1, by omega⟩
  simp only [chancelref03_Size.l0]
  rw [if_neg (by omega), List.drop_of_length_le (by omega)]
  rfl
 | succ d ihd =>
  intro k i a h1 h2 h3 h4
  obtain ⟨k, rfl⟩ : ∃ j, k = j + 1 := ⟨k - 1, by omega⟩
  have hlt : i < l.length := by omega
  have hd := List.drop_eq_getElem_cons hlt
  rw [hd, sizesT] at h3 h4 ⊢
  have hp := size_pos (l[i]'hlt)
  simp only [chancelref03_Size.l0]
  rw [if_pos (by omega), if_pos (by omega), rdRTm_at l i hlt, ih (l[i]'hlt) (List.getElem_mem hlt) k (by omega)]
  simp only [Option.bind_some]
  have e1 : wrap64 ((i : Int) + 1) = ((i + 1 : Nat) : Int) := by rw [wrap_id (by omega) (by omega)]; rfl
  have e2 : wrap64 ((a : Int) + (sizeT (l[i]'hlt) : Int)) = ((a + sizeT (l[i]'hlt) : Nat) : Int) := by rw [wrap_id (by omega) (by omega)]; rfl
  rw [e1, e2]
  clear e1 e2
  rw [ihd k (i + 1) (a + sizeT (l[i]'hlt)) (by omega) (by omega) (by omega) (by omega), Nat.add_assoc]
theorem sizeF_eq (t : Tm) : sizeT t ≤ 9223372036854775807 → ∀ k, 2 * sizeT t ≤ k → chancelref03_Size.f k (toR t).f0 (toR t).f1 (toR t).f2 (toR t).f3 = some (sizeT t : Int) := by
 induction t using Tm.ind with
 | h a b c l ih =>
  intro hs k hk
  rw [sizeT] at hs hk ⊢
  obtain ⟨k, rfl⟩ : ∃ j, k = j + 1 := ⟨k - 1, by omega⟩
  have hloop := sizeF_loop l (by omega) (fun t ht k hk => ih t ht (by have := size_mem ht; omega) k hk) a b c l.length k 0 1 (by omega) (by omega) (by rw [List.drop_zero]; omega) (by rw [List.drop_zero]; omega)
  rw [List.drop_zero] at hloop
  rw [chancelref03_Size.f]
  exact hloop
theorem depthF_loop (l : List Tm) (hl : sizesT l ≤ 9223372036854775806) (ih : ∀ t ∈ l, ∀ k, 2 * sizeT t ≤ k → chancelref03_Depth.f k (toR t).f0 (toR t).f1 (toR t).f2 (toR t).f3 = some (depthT t : Int)) (x y z) (d : Nat) : ∀ (k i : Nat) (a : Nat), i ≤ l.length → l.length - i = d → 2 * sizesT (l.drop i) + 1 ≤ k → a ≤ 9223372036854775806 →
  chancelref03_Depth.l0 k (a : Int) (i : Int) x y z (toRs l) = some ((max a (depthsT (l.drop i)) + 1 : Nat) : Int) := by
 have hlen := sizes_len l
 have hll := toRs_len l
 induction d with
 | zero =>
  intro k i a h1 h2 h3 h4
  obtain ⟨k, rfl⟩ : ∃ j, k = j + 1 := ⟨k - 1, by omega⟩
  simp only [chancelref03_Depth.l0]
  rw [if_neg (by omega), List.drop_of_length_le (by omega), wrap_id (by omega) (by omega)]
  simp [depthsT]
 | succ d ihd =>
  intro k i a h1 h2 h3 h4
  obtain ⟨k, rfl⟩ : ∃ j, k = j + 1 := ⟨k - 1, by omega⟩
  have hlt : i < l.length := by omega
  have hd := List.drop_eq_getElem_cons hlt
  have hsd := sizes_drop l i
  rw [hd] at hsd ⊢
  rw [hd] at h3
  rw [sizesT] at h3 hsd
  rw [depthsT]
  have hp := size_pos (l[i]'hlt)
  have hds := depth_le_size (l[i]'hlt)
  simp only [chancelref03_Depth.l0]
  rw [if_pos (by omega), if_pos (by omega), rdRTm_at l i hlt, ih (l[i]'hlt) (List.getElem_mem hlt) k (by omega)]
  simp only [Option.bind_some]
  have e1 : wrap64 ((i : Int) + 1) = ((i + 1 : Nat) : Int) := by rw [wrap_id (by omega) (by omega)]; rfl
  have e2 : mx (a : Int) (depthT (l[i]'hlt) : Int) = ((max a (depthT (l[i]'hlt)) : Nat) : Int) := by rw [mx_eq]; omega
  rw [e1, e2]
  clear e1 e2
  rw [ihd k (i + 1) _ (by omega) (by omega) (by omega) (by omega), Nat.max_assoc]
theorem depthF_eq (t : Tm) : sizeT t ≤ 9223372036854775807 → ∀ k, 2 * sizeT t ≤ k → chancelref03_Depth.f k (toR t).f0 (toR t).f1 (toR t).f2 (toR t).f3 = some (depthT t : Int) := by
 induction t using Tm.ind with
 | h a b c l ih =>
  intro hs k hk
  rw [sizeT] at hs hk
  rw [depthT]
  obtain ⟨k, rfl⟩ : ∃ j, k = j + 1 := ⟨k - 1, by omega⟩
  have hloop := depthF_loop l (by omega) (fun t ht k hk => ih t ht (by have := size_mem ht; omega) k hk) a b c l.length k 0 0 (by omega) (by omega) (by rw [List.drop_zero]; omega) (by omega)
  rw [List.drop_zero, Nat.zero_max] at hloop
  rw [chancelref03_Depth.f]
  exact hloop
theorem refTm_loop (l : List Tm) (hl : sizesT l ≤ 1000000000000) (ih : ∀ t ∈ l, ∀ k, 2 * sizeT t ≤ k → chancellaw05_refTerm.f k t.f0 t.f1 t.f2 t.f3 = some ((toR t).f0, (toR t).f1, (toR t).f2, (toR t).f3)) (x y z x' y' z') (d : Nat) : ∀ (k i : Nat), i ≤ l.length → l.length - i = d → 2 * sizesT (l.drop i) + 1 ≤ k →
  chancellaw05_refTerm.l0 k (i : Int) x y z l x' y' z' ((l.take i).map toR) = some (x', y', z', l.map toR) := by
 have hlen := sizes_len l
 induction d with
 | zero =>
  intro k i h1 h2 h3
  obtain ⟨k, rfl⟩ : ∃ j, k = j + 1 := ⟨k - 1, by omega⟩
  simp only [chancellaw05_refTerm.l0]
  rw [if_neg (by omega), List.take_of_length_le (by omega)]
 | succ d ihd =>
  intro k i h1 h2 h3
  obtain ⟨k, rfl⟩ : ∃ j, k = j + 1 := ⟨k - 1, by omega⟩
  have hlt : i < l.length := by omega
  have hd := List.drop_eq_getElem_cons hlt
  rw [hd, sizesT] at h3
  have hp := size_pos (l[i]'hlt)
  have hgo := ihd k (i + 1) (by omega) (by omega) (by omega)
  simp only [chancellaw05_refTerm.l0]
  rw [if_pos (by omega), if_pos (by omega), rdTm_at l i hlt, ih (l[i]'hlt) (List.getElem_mem hlt) k (by omega)]
  simp only [Option.bind_some]
  have e1 : wrap64 ((i : Int) + 1) = ((i + 1 : Nat) : Int) := by rw [wrap_id (by omega) (by omega)]; rfl
  rw [e1, if_pos (by rw [List.length_map, List.length_take]; omega)]
  rw [List.take_succ_eq_append_getElem hlt, List.map_append] at hgo
  have het : ∀ x : RTm, (⟨x.f0, x.f1, x.f2, x.f3⟩ : RTm) = x := fun x => by cases x; rfl
  rw [het]
  exact hgo
theorem refTm_eq (t : Tm) : sizeT t ≤ 1000000000000 → ∀ k, 2 * sizeT t ≤ k → chancellaw05_refTerm.f k t.f0 t.f1 t.f2 t.f3 = some ((toR t).f0, (toR t).f1, (toR t).f2, (toR t).f3) := by
 induction t using Tm.ind with
 | h a b c l ih =>
  intro hs k hk
  rw [sizeT] at hs hk
  obtain ⟨k, rfl⟩ : ∃ j, k = j + 1 := ⟨k - 1, by omega⟩
  have hloop := refTm_loop l (by omega) (fun t ht k hk => ih t ht (by have := size_mem ht; omega) k hk) a b c a b c l.length k 0 (by omega) (by omega) (by rw [List.drop_zero]; omega)
  rw [chancellaw05_refTerm.f, toR, toRs_map]
  exact hloop
def TmRF (w : World) (t : RTm) (v : Value) : Prop := ∃ A c, v = .agg #[.int .i64 t.f0, .string t.f1, .int .i64 t.f2, .slice A t.f3.length c] ∧ t.f3.length ≤ c ∧ Kd.C k32 w A t.f3.length t.f3
theorem TmF.R {base : Nat} {w : World} {t : RTm} {v : Value} (h : TmF base w t v) : TmRF w t v := by
 obtain ⟨A, c, e, hl, hC⟩ := h
 exact ⟨A, c, e, hl, hC w (Same.refl _ _)⟩
theorem TmRF.below {w w1 : World} {t : RTm} {v : Value} (h : TmRF w t v) (hb : Below w.heap.size w w1) : TmRF w1 t v := by
 obtain ⟨A, c, e, hl, hC⟩ := h
 exact ⟨A, c, e, hl, Kd.C_below hC hb⟩
end Go.Proofs.YtchekgnacodolaaGreatDoor.X
end
section
namespace Go.Proofs.YtchekgnacodolaaGreatDoor.X
open Go.RowKit Go.Proofs.YtchekgnacodolaaGreatDoorW.PrintWords Go.Proofs.YtchekgnacodolaaGreatDoorW.PrintLast Go.Proofs.YtchekgnacodolaaGreatDoorW.PrintMore
set_option linter.unusedSimpArgs false
set_option linter.unusedVariables false
theorem TmRF.at {w : World} {A : Option Addr} {l : List Tm} (h : Kd.C k32 w A (toRs l).length (toRs l)) (i : Nat) (hi : i < l.length) :
  ∃ ad A3 c3, A = some ad ∧ w.cell? (ad.add (i * 4)) = some (.int .i64 (toR l[i]).f0) ∧ w.cell? ⟨(ad.add (i * 4)).block, (ad.add (i * 4)).off + 1, none⟩ = some (.string (toR l[i]).f1) ∧ w.cell? ⟨(ad.add (i * 4)).block, (ad.add (i * 4)).off + 2, none⟩ = some (.int .i64 (toR l[i]).f2) ∧ w.cell? ⟨(ad.add (i * 4)).block, (ad.add (i * 4)).off + 3, none⟩ = some (.slice A3 (toR l[i]).f3.length c3) ∧ TmRF w (toR l[i]) (.agg #[.int .i64 (toR l[i]).f0, .string (toR l[i]).f1, .int .i64 (toR l[i]).f2, .slice A3 (toR l[i]).f3.length c3]) := by
 obtain ⟨ad, A3, c3, e, h0, h1, h2, h3, hl, hC⟩ := at_T32 h (i : Int) (by omega) (by rw [toRs_len]; omega)
 rw [rdRTm_at l i hi, Int.toNat_natCast] at *
 exact ⟨ad, A3, c3, e, h0, h1, h2, h3, A3, c3, rfl, hl, hC⟩
def SameFH (t : Tm) : Prop := ∀ (v1 v2 : Value) (w : World), TmRF w (toR t) v1 → TmRF w (toR t) v2 → Calls Tryz.prog 24 #[v1, v2] w fun e w' => e = .returned (.bool true) ∧ Below w.heap.size w w'
theorem sameFC (t : Tm) : SameFH t := by
 induction t using Tm.ind with
 | h a b c l ih =>
  rintro v1 v2 w ⟨A, cA, rfl, hl, hA⟩ ⟨A', cB, rfl, hl', hB⟩
  simp only [toR] at hl hA hl' hB ⊢
  have hll := toRs_len l
  obtain ⟨n, hn⟩ : ∃ n, (toRs l).length = n := ⟨_, rfl⟩
  have hW := zqb (zqb (Below.refl w.heap.size w) (.cells #[.int .i64 a, .string b, .int .i64 c, .slice A n cA] 32)) (.cells #[.int .i64 a, .string b, .int .i64 c, .slice A' n cB] 32)
  have O2 : Own ((w.alloc (.cells #[.int .i64 a, .string b, .int .i64 c, .slice A n cA] 32)).alloc (.cells #[.int .i64 a, .string b, .int .i64 c, .slice A' n cB] 32)) w.heap.size _ _ := (Own.new w #[.int .i64 a, .string b, .int .i64 c, .slice A n cA] 32).alloc _
  have O3 : Own ((w.alloc (.cells #[.int .i64 a, .string b, .int .i64 c, .slice A n cA] 32)).alloc (.cells #[.int .i64 a, .string b, .int .i64 c, .slice A' n cB] 32)) (w.heap.size + 1) #[.int .i64 a, .string b, .int .i64 c, .slice A' n cB] 32 := by
   have := Own.new (w.alloc (.cells #[.int .i64 a, .string b, .int .i64 c, .slice A n cA] 32)) #[.int .i64 a, .string b, .int .i64 c, .slice A' n cB] 32
   simpa using this
  have O2 := Lib.hid O2
  have O3 := Lib.hid O3
  have HW := Lib.hid hW
  have HA := Lib.hid hA
  have HB := Lib.hid hB
  have IH := Lib.hid ih
  have HNL := Lib.hid (show n = l.length by omega)
  have HN := Lib.hid hn
  have hlen := hA.2.1
  rw [hn] at hlen
  rw [hn]
  clear hn hl hl' hll hA hB ih hW
  go_enter Tryz.func24, Tryz.ntmps24
  go_wp2_with fail
  go_loopg [5] n (fun gk v5 wr => ∃ i : Nat, v5 = .int .i64 i ∧ i ≤ n ∧ gk = n - i ∧ Aside0 (Below ((w.alloc (.cells #[.int .i64 a, .string b, .int .i64 c, .slice A n cA] 32)).alloc (.cells #[.int .i64 a, .string b, .int .i64 c, .slice A' n cB] 32)).heap.size ((w.alloc (.cells #[.int .i64 a, .string b, .int .i64 c, .slice A n cA] 32)).alloc (.cells #[.int .i64 a, .string b, .int .i64 c, .slice A' n cB] 32)) wr))
  case atStart => exact ⟨0, rfl, by omega, by omega, ⟨Below.refl _ _⟩⟩
  case round =>
   obtain ⟨i, rfl, hi, hgk, HR⟩ := hrel
   have x3 : wr.cell? ⟨w.heap.size, 3, none⟩ = some (.slice A n cA) := by rw [zqf (zqn O2.out HR.out)]; rfl
   have y3 : wr.cell? ⟨w.heap.size + 1, 3, none⟩ = some (.slice A' n cB) := by rw [zqf (zqn O3.out HR.out)]; rfl
   by_cases hlt : i < n
   ·have hdd : decide ((i : Int) < (n : Int)) = true := by rw [decide_eq_true_eq]; omega
    have hll : i < l.length := by have := HNL.out; omega
    have p1 : (0 ≤ (i : Int)) = True := eq_true (by omega)
    have p2 : ((i : Int) < (n : Int)) = True := eq_true (by omega)
    have hb0 := HW.out.trans (HR.out.mono HW.out.size)
    obtain ⟨ad, A3, c3, rfl, a0, a1, a2, a3, ha⟩ := TmRF.at (Kd.C_below HA.out hb0) i hll
    obtain ⟨bd, B3, b3, rfl, e0, e1, e2, e3, hb⟩ := TmRF.at (Kd.C_below HB.out hb0) i hll
    have hdr := zqx (Below.refl wr.heap.size wr)
    have K := Lib.hid (IH.out l[i] (List.getElem_mem hll) _ _ _ (ha.below hdr) (hb.below hdr))
    clear ha hb hb0
    generalize toR l[i] = x at *
    clear hll
    go_wp2_with fail
    go_region_held3 (fun w' => w'.cell? ⟨w.heap.size, 3, none⟩ = some (.slice (some ad) n cA) ∧ w'.cell? ⟨w.heap.size + 1, 3, none⟩ = some (.slice (some bd) n cB) ∧ w'.cell? (ad.add (i * 4)) = some (.int .i64 x.f0) ∧ w'.cell? ⟨(ad.add (i * 4)).block, (ad.add (i * 4)).off + 1, none⟩ = some (.string x.f1) ∧ w'.cell? ⟨(ad.add (i * 4)).block, (ad.add (i * 4)).off + 2, none⟩ = some (.int .i64 x.f2) ∧ w'.cell? ⟨(ad.add (i * 4)).block, (ad.add (i * 4)).off + 3, none⟩ = some (.slice A3 x.f3.length c3) ∧ w'.cell? (bd.add (i * 4)) = some (.int .i64 x.f0) ∧ w'.cell? ⟨(bd.add (i * 4)).block, (bd.add (i * 4)).off + 1, none⟩ = some (.string x.f1) ∧ w'.cell? ⟨(bd.add (i * 4)).block, (bd.add (i * 4)).off + 2, none⟩ = some (.int .i64 x.f2) ∧ w'.cell? ⟨(bd.add (i * 4)).block, (bd.add (i * 4)).off + 3, none⟩ = some (.slice B3 x.f3.length b3)) (go_keep)
     ((go_at_call 24; refine K.out.mono ?_; rintro e w3 ⟨rfl, hb⟩; have x3 := zqt hb x3; have y3 := zqt hb y3; have a0 := zqt hb a0; have a1 := zqt hb a1; have a2 := zqt hb a2; have a3 := zqt hb a3; have e0 := zqt hb e0; have e1 := zqt hb e1; have e2 := zqt hb e2; have e3 := zqt hb e3))
    have HR3 := Aside0.mk (HR.out.trans ((hdr.trans (hb.mono hdr.size)).mono HR.out.size))
    clear hb hdr x3 y3 a0 a1 a2 a3 e0 e1 e2 e3
    go_wp2_with fail
    go_roundg (n - (i + 1))
    case measure => omega
    case rel => exact ⟨i + 1, by go_num, by omega, rfl, HR3⟩
   ·have hdd : decide ((i : Int) < (n : Int)) = false := by rw [decide_eq_false_iff_not]; omega
    go_wp2_with fail
    go_ret
    exact ⟨rfl, HW.out.trans (HR.out.mono HW.out.size)⟩
end Go.Proofs.YtchekgnacodolaaGreatDoor.X
end

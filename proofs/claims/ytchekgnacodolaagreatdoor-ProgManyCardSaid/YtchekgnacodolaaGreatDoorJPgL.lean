/- ProgMany: thirty-two declarations of a kind may be, a thirty-third is too many. -/
import Derived.IntWalk
import Derived.OpenShut
import Derived.Laws.IdiomStrings
import Derived.Test.YtchekgnacodolaaGreatDoorJ25
import Derived.Test.YtchekgnacodolaaGreatDoorJ26
namespace Go.Proofs.YtchekgnacodolaaGreatDoor.X
open Go.RowKit Go.Proofs.YtchekgnacodolaaGreatDoorW.PrintWords Go.Proofs.YtchekgnacodolaaGreatDoorW.PrintLast Go.Proofs.YtchekgnacodolaaGreatDoorW.PrintMore
set_option linter.unusedSimpArgs false
set_option linter.unusedVariables false

def nmM (i : Nat) : ByteArray := ⟨#[118, UInt8.ofNat (97 + i / 10), UInt8.ofNat (48 + i % 10)]⟩
/-- What the loop has made behind i rounds. -/
def tx0 (i : Nat) : List UInt8 := [105, 110, 112, 117, 116, 32] ++ (nmM i).data.toList ++ [32, 58, 32, 76, 111, 32, 46, 32]
def tx1 (i : Nat) : List UInt8 := [99, 101, 108, 108, 32] ++ (nmM i).data.toList ++ [32, 58, 32, 76, 111, 32, 61, 32, 51, 32, 46, 32]
def tx2 (i : Nat) : List UInt8 := [100, 101, 102, 32] ++ (nmM i).data.toList ++ [32, 61, 32, 102, 117, 110, 32, 120, 32, 61, 62, 32, 120, 32, 46, 32]
def txM (k : Nat) (i : Nat) : List UInt8 := ((List.range i).map (if k % 3 = 0 then tx0 else if k % 3 = 1 then tx1 else tx2)).flatten
def dlM0 (i : Nat) : Dl := ⟨nmM i, ⟨#[76, 111]⟩, 0⟩
def dlM1 (i : Nat) : Dl := ⟨nmM i, ⟨#[76, 111]⟩, 3⟩
def dfM (i : Nat) : Df := ⟨nmM i, ⟨3, ⟨#[120]⟩, 0, [⟨2, ⟨#[120]⟩, 0, []⟩]⟩⟩
def prM (k : Nat) (i : Nat) : Prg := ⟨if k % 3 = 0 then (List.range i).map dlM0 else [], if k % 3 = 1 then (List.range i).map dlM1 else [], if k % 3 = 2 then (List.range i).map dfM else [], zTm⟩
theorem txM_step (k i : Nat) : txM k (i + 1) = txM k i ++ (if k % 3 = 0 then tx0 i else if k % 3 = 1 then tx1 i else tx2 i) := by
  unfold txM
  rw [List.range_succ, List.map_append, List.flatten_append]
  split
  · simp
  · split <;> simp
theorem prM_len (k i : Nat) : (prM k i).f0.length ≤ i ∧ (prM k i).f1.length ≤ i ∧ (prM k i).f2.length ≤ i := by
  unfold prM
  refine ⟨?_, ?_, ?_⟩ <;> (simp only; split <;> simp)
theorem prM_step0 (k i : Nat) (hk : k % 3 = 0) : prM k (i + 1) = { prM k i with f0 := (prM k i).f0 ++ [⟨nmM i, ⟨#[76, 111]⟩, 0⟩] } := by
  simp [prM, hk, List.range_succ, dlM0]
theorem prM_step1 (k i : Nat) (hk : k % 3 = 1) : prM k (i + 1) = { prM k i with f1 := (prM k i).f1 ++ [⟨nmM i, ⟨#[76, 111]⟩, 3⟩] } := by
  simp [prM, hk, List.range_succ, dlM1]
theorem prM_step2 (k i : Nat) (hk : k % 3 = 2) : prM k (i + 1) = { prM k i with f2 := (prM k i).f2 ++ [⟨nmM i, ⟨3, ⟨#[120]⟩, 0, [⟨2, ⟨#[120]⟩, 0, []⟩]⟩⟩] } := by
  simp [prM, hk, List.range_succ, dfM]
theorem join3 (S a b : List UInt8) (q : ByteArray) : B S ++ B a ++ q ++ B b = B (S ++ (a ++ q.data.toList ++ b)) := by
  rw [show q = B q.data.toList from (B_of q).symm]
  simp only [B_append, B_list]
  simp [B]
theorem txM_step0 (k i : Nat) (hk : k % 3 = 0) (q : ByteArray) (h : (⟨#[118]⟩ : ByteArray) ++ q = nmM i) : B (txM k i) ++ ⟨#[105, 110, 112, 117, 116, 32]⟩ ++ (⟨#[118]⟩ ++ q) ++ ⟨#[32, 58, 32, 76, 111, 32, 46, 32]⟩ = B (txM k (i + 1)) := by
  rw [h, txM_step, if_pos hk]; exact join3 _ [105, 110, 112, 117, 116, 32] [32, 58, 32, 76, 111, 32, 46, 32] (nmM i)
theorem txM_step1 (k i : Nat) (hk : k % 3 = 1) (q : ByteArray) (h : (⟨#[118]⟩ : ByteArray) ++ q = nmM i) : B (txM k i) ++ ⟨#[99, 101, 108, 108, 32]⟩ ++ (⟨#[118]⟩ ++ q) ++ ⟨#[32, 58, 32, 76, 111, 32, 61, 32, 51, 32, 46, 32]⟩ = B (txM k (i + 1)) := by
  rw [h, txM_step, if_neg (by omega), if_pos hk]; exact join3 _ [99, 101, 108, 108, 32] [32, 58, 32, 76, 111, 32, 61, 32, 51, 32, 46, 32] (nmM i)
theorem txM_step2 (k i : Nat) (hk : k % 3 = 2) (q : ByteArray) (h : (⟨#[118]⟩ : ByteArray) ++ q = nmM i) : B (txM k i) ++ ⟨#[100, 101, 102, 32]⟩ ++ (⟨#[118]⟩ ++ q) ++ ⟨#[32, 61, 32, 102, 117, 110, 32, 120, 32, 61, 62, 32, 120, 32, 46, 32]⟩ = B (txM k (i + 1)) := by
  rw [h, txM_step, if_neg (by omega), if_neg (by omega)]; exact join3 _ [100, 101, 102, 32] [32, 61, 32, 102, 117, 110, 32, 120, 32, 61, 62, 32, 120, 32, 46, 32] (nmM i)
theorem txM_len (k : Nat) : ∀ i, (txM k i).length ≤ 40 * i
  | 0 => by simp [txM]
  | i + 1 => by
    have h1 := txM_len k i
    have hn : (nmM i).data.toList.length = 3 := rfl
    rw [txM_step, List.length_append]
    have : (if k % 3 = 0 then tx0 i else if k % 3 = 1 then tx1 i else tx2 i).length ≤ 40 := by
      split
      · unfold tx0; simp only [List.length_append, List.length_cons, List.length_nil, hn]; omega
      · split
        · unfold tx1; simp only [List.length_append, List.length_cons, List.length_nil, hn]; omega
        · unfold tx2; simp only [List.length_append, List.length_cons, List.length_nil, hn]; omega
    omega
def prF (k i : Nat) : Prg := { prM k i with f3 := ⟨1, ⟨#[]⟩, 0, []⟩ }
theorem txM_mod (k i : Nat) : txM k i = txM (k % 3) i := by unfold txM; rw [Nat.mod_mod]
theorem prM_mod (k i : Nat) : prM (k % 3) i = prM k i := by unfold prM; rw [Nat.mod_mod]
def chkM (c i : Nat) : Bool := ((progR (txM c i ++ [48])).2 == (if 32 < i then 1 else 0)) && ((decide (32 < i) || samePrg (progR (txM c i ++ [48])).1 (prF c i)) && (((!(printP (prF c i)).isEmpty) == decide (i ≤ 32)) && (decide ((progR (txM c i ++ [48])).1.f0.length ≤ 100) && decide ((progR (txM c i ++ [48])).1.f1.length ≤ 100))))
theorem chk_run : ((List.range 3).all fun c => (List.range 9).all fun j => chkM c (28 + j)) = true := by kernel_rfl
theorem chk_all (c i : Nat) (hc : c < 3) (h1 : 28 ≤ i) (h2 : i ≤ 36) : (progR (txM c i ++ [48])).2 = (if 32 < i then 1 else 0) ∧ (¬ 32 < i → samePrg (progR (txM c i ++ [48])).1 (prF c i) = true) ∧ decide (printP (prF c i) ≠ []) = decide (i ≤ 32) ∧ ((progR (txM c i ++ [48])).1.f0.length ≤ 100 ∧ (progR (txM c i ++ [48])).1.f1.length ≤ 100) := by
  have h := chk_run
  rw [List.all_eq_true] at h
  have h := h c (List.mem_range.2 hc)
  rw [List.all_eq_true] at h
  have h := h (i - 28) (List.mem_range.2 (by omega))
  rw [show 28 + (i - 28) = i by omega] at h
  unfold chkM at h
  simp only [Bool.and_eq_true, beq_iff_eq, Bool.or_eq_true, decide_eq_true_eq] at h
  obtain ⟨a, b, c, d, e⟩ := h
  refine ⟨a, fun h => b.resolve_left h, ?_, d, e⟩
  rw [← c]
  cases printP _ <;> simp
theorem ok_prF (k i : Nat) : OkP (prF k i) := by
  refine ⟨fun d hd => ?_, fun d hd => ?_, fun d hd => ?_, rfl, by show (1 + 0 : Nat) ≤ _; decide⟩
  · simp only [prF, prM] at hd
    split at hd
    · obtain ⟨j, -, rfl⟩ := List.mem_map.1 hd; exact ⟨by show (3 : Nat) ≤ _; decide, by show (2 : Nat) ≤ _; decide⟩
    · cases hd
  · simp only [prF, prM] at hd
    split at hd
    · obtain ⟨j, -, rfl⟩ := List.mem_map.1 hd; exact ⟨by show (3 : Nat) ≤ _; decide, by show (2 : Nat) ≤ _; decide⟩
    · cases hd
  · simp only [prF, prM] at hd
    split at hd
    · obtain ⟨j, -, rfl⟩ := List.mem_map.1 hd; exact ⟨by show (3 : Nat) ≤ _; decide, by show namesT (⟨3, ⟨#[120]⟩, 0, [⟨2, ⟨#[120]⟩, 0, []⟩]⟩ : Tm) = true; decide, by show sizeT (⟨3, ⟨#[120]⟩, 0, [⟨2, ⟨#[120]⟩, 0, []⟩]⟩ : Tm) ≤ _; decide⟩
    · cases hd
theorem kidF (W0 : World) : Kd.F k26 (W0.alloc (.cells #[.int .i64 2, .string ⟨#[120]⟩, .int .i64 0, .slice none 0 0] 26)) (fun k => W0.heap.size ≤ k) (some ⟨W0.heap.size, 0, none⟩) 1 [⟨2, ⟨#[120]⟩, 0, []⟩] := by
  intro W' hW
  have hb : W'.heap[W0.heap.size]? = some (.cells #[.int .i64 2, .string ⟨#[120]⟩, .int .i64 0, .slice none 0 0] 26 (0, 0)) := (hW _ (Nat.le_refl _) (by simp)).trans (blk_new _ _)
  exact C_lit hb (Reps.c4 (k26_mk W' (⟨2, ⟨#[120]⟩, 0, []⟩ : Tm) (Nat.le_refl _) (C_nilK _ _)) (Reps.none _ _)) (by show (1 : Nat) ≤ _; decide)
set_option maxRecDepth 100000 in
set_option maxHeartbeats 8000000 in
theorem lawMany (w : World) (hG : GQ w) (a : Int) (ha : (Lit.int .u8 a).wf = true) (b : Int) (hb : (Lit.int .u8 b).wf = true) :
    Calls Tryz.prog 15 #[.int .u8 a, .int .u8 b] w fun e w' => e = .returned (.bool true) ∧ Below w.heap.size w w' := by
  have h1 : 0 ≤ a ∧ a ≤ 255 := Go.bounds_u8 ha
  have h2 : 0 ≤ b ∧ b ≤ 255 := Go.bounds_u8 hb
  obtain ⟨n, rfl⟩ : ∃ n : Nat, a = n := ⟨a.toNat, by omega⟩
  obtain ⟨k, rfl⟩ : ∃ k : Nat, b = k := ⟨b.toNat, by omega⟩
  have K := Lib.hid (exam6C w hG)
  have HG := Lib.hid hG
  clear hG ha hb
  obtain ⟨m, hm⟩ : ∃ m, m = 28 + n % 9 := ⟨_, rfl⟩
  have hmi : (28 : Int) + (n : Int) % 9 = (m : Int) := by omega
  have hmb : 28 ≤ m ∧ m ≤ 36 := by omega
  have HM := Lib.hid hm
  clear hm
  go_enter Tryz.func15, Tryz.ntmps15
  go_wp2_with fail
  refine K.out.mono ?_
  rintro e w1 ⟨rfl, hb⟩
  have hA := below_alloc (Below.refl w1.heap.size w1) (.cells zeroP 64)
  have HPS := Lib.hid (show PS w1.heap.size zPrg (.slice none 0 0) (.slice none 0 0) (.slice none 0 0) (w1.alloc (.cells zeroP 64)) from ⟨blk_new _ _, Kd.N_nil _ _ _ _ _, Kd.N_nil _ _ _ _ _, Kd.N_nil _ _ _ _ _⟩)
  have HA := Lib.hid hA
  have HB := Lib.hid hb
  clear hb hA
  go_wp2_with fail
  go_loopg [7, 9] m (fun gk v7 v9 wr => ∃ (i : Nat) (S : ByteArray) (v0 v1 v2 : Value), v9 = .int .i64 i ∧ v7 = .string S ∧ i ≤ m ∧ gk = m - i ∧ Aside0 (S = B (txM k i)) ∧ Aside0 (PS w1.heap.size (prM k i) v0 v1 v2 wr) ∧ Aside0 (Below w1.heap.size w1 wr))
  case atStart => exact ⟨0, _, _, _, _, rfl, rfl, by omega, by omega, ⟨rfl⟩, ⟨by have := HPS.out; simpa [prM, zPrg] using this⟩, ⟨HA.out⟩⟩
  case round =>
    obtain ⟨i, S, v0, v1, v2, rfl, rfl, hi, hgk, HS, HP, HR⟩ := hrel
    by_cases hlt : i < m
    · have hdd : decide ((i : Int) < (m : Int)) = true := by rw [decide_eq_true_eq]; omega
      obtain ⟨q, hq⟩ : ∃ q : ByteArray, q = ⟨[UInt8.ofNat (97 + i / 10), UInt8.ofNat (48 + i % 10)].toArray⟩ := ⟨_, rfl⟩
      have hqs : q.size = 2 := by rw [hq]; rfl
      have hqn : (⟨#[118]⟩ : ByteArray) ++ q = nmM i := by rw [hq]; rfl
      have hcv : (convert 51 9 (.slice (some ⟨wr.heap.size, 0, none⟩) 2 2)).run Tryz.prog (wr.alloc (.cells #[.int .u8 (97 + (i : Int) / 10), .int .u8 (48 + (i : Int) % 10)] 5)) = .ok (.string q) (wr.alloc (.cells #[.int .u8 (97 + (i : Int) / 10), .int .u8 (48 + (i : Int) % 10)] 5)) := by
        rw [hq]
        refine run_convert_bytes_back _ 51 9 5 ⟨wr.heap.size, 0, none⟩ 2 [UInt8.ofNat (97 + i / 10), UInt8.ofNat (48 + i % 10)] Tryz.underlying51 Tryz.underlying5 Tryz.underlying9 ?_
        intro j hj
        have X := Own.new wr #[.int .u8 (97 + (i : Int) / 10), .int .u8 (48 + (i : Int) % 10)] 5
        have hj2 : j = 0 ∨ j = 1 := by simp at hj; omega
        rcases hj2 with rfl | rfl
        · refine (X.cell 0).trans ?_
          show some (Value.int .u8 (97 + (i : Int) / 10)) = some (Value.int .u8 (((UInt8.ofNat (97 + i / 10)).toNat : Nat) : Int))
          rw [UInt8.toNat_ofNat_of_lt' (by show 97 + i / 10 < 256; omega)]
          congr 2
        · refine (X.cell 1).trans ?_
          show some (Value.int .u8 (48 + (i : Int) % 10)) = some (Value.int .u8 (((UInt8.ofNat (48 + i % 10)).toNat : Nat) : Int))
          rw [UInt8.toNat_ofNat_of_lt' (by show 48 + i % 10 < 256; omega)]
          congr 2
      have HQN := Lib.hid hqn
      clear hq hqn
      have hSz : S.size ≤ 2000 := by rw [HS.out, B_size]; have := txM_len k i; omega
      have z0 : (9223372036854775807 < 1 + q.size) = False := eq_false (by omega)
      have hk3 : k % 3 = 0 ∨ k % 3 = 1 ∨ k % 3 = 2 := by omega
      rcases hk3 with hk | hk | hk
      · have hk0 : ((k : Int) % 3 == 0) = true := by rw [beq_iff_eq]; omega
        have z1 : (9223372036854775807 < S.size + 6) = False := eq_false (by omega)
        have z2 : (9223372036854775807 < S.size + 6 + (1 + q.size)) = False := eq_false (by omega)
        have z3 : (9223372036854775807 < S.size + 6 + (1 + q.size) + 8) = False := eq_false (by omega)
        have hbW := below_alloc (Below.refl wr.heap.size wr) (.cells #[.int .u8 (97 + (i : Int) / 10), .int .u8 (48 + (i : Int) % 10)] 5)
        have HRW := Lib.hid (HR.out.trans (hbW.mono HR.out.size))
        have HTX := Lib.hid (txM_step0 k i hk q HQN.out)
        have HPW := HP.out.below hbW
        obtain ⟨A0, c0, rfl, hc0⟩ := HPW.s0
        obtain ⟨n0, hn0⟩ : ∃ n0, (prM k i).f0.length = n0 := ⟨_, rfl⟩
        have hn1 : n0 ≤ 36 := by rw [← hn0]; exact Nat.le_trans (prM_len k i).1 (by omega)
        have OG : Own (wr.alloc (.cells #[.int .u8 (97 + (i : Int) / 10), .int .u8 (48 + (i : Int) % 10)] 5)) w1.heap.size _ _ := HPW.blk
        have g0 := OG.cell 0
        rw [hn0] at g0
        skip
        have hN0 := HPW.n0
        have away : some w1.heap.size ≠ (Value.slice A0 (prM k i).f0.length c0).ownBlock := Kd.N_away hN0 (fun q hq => by have := hq.1; omega)
        have hgW := HPW.lt
        have L0 := Kd.N_lt HPW.n0
        have L1 := Kd.N_lt HPW.n1
        have L2 := Kd.N_lt HPW.n2
        have HPW := Lib.hid HPW
        go_wp2_with (first | ((with_reducible refine gate_builtin (b := .append) (xs := #[.tmp 46, .tmp 49]) rfl ?_); at_builtin; refine Kd.N_append k87 (w0 := (wr.alloc (.cells #[.int .u8 (97 + (i : Int) / 10), .int .u8 (48 + (i : Int) % 10)] 5))) (w1.heap.size + 1) rfl (.tmp 46) (.tmp 49) 61 87 (.agg #[.string ⟨#[]⟩, .string ⟨#[]⟩, .int .i64 0]) 40 rfl Tryz.underlying61 infoDl rfl (by decide) (by omega) (.slice A0 n0 c0) (prM k i).f0 (⟨(⟨#[118]⟩ : ByteArray) ++ q, ⟨#[76, 111]⟩, 0⟩ : Dl) [.string ((⟨#[118]⟩ : ByteArray) ++ q), .string ⟨#[76, 111]⟩, .int .i64 0] (fun k => w1.heap.size < k ∧ some k ≠ v1.ownBlock ∧ some k ≠ v2.ownBlock) (fun _ => False) rfl (by rw [show (Array.size (World.heap (wr.alloc (.cells #[.int .u8 (97 + (i : Int) / 10), .int .u8 (48 + (i : Int) % 10)] 5)))) = wr.heap.size + 1 by simp]; first | done | rfl) ?aP ?aK ?aF ?aO (Below.refl _ _) ?aS ?aL ?_; (case aP => exact (k87_mkF _ _ _)); (case aK => exact (fun _ hk => hk.elim)); (case aF => exact (fun k hk => ⟨by omega, fun he => by have := L1 k he.symm; omega, fun he => by have := L2 k he.symm; omega⟩)); (case aO => rw [← hn0]; exact hN0); (case aS => omega); (case aL => rw [hn0]; omega); intro u w9 hN9 hb9 hg9 hat9; rw [← hn0] at hg9 hat9; obtain ⟨A5, c5, rfl⟩ := Kd.N_slice hN9; obtain ⟨m5, hm5⟩ : ∃ m5, ((prM k i).f0 ++ [(⟨(⟨#[118]⟩ : ByteArray) ++ q, ⟨#[76, 111]⟩, 0⟩ : Dl)]).length = m5 := ⟨_, rfl⟩; rw [hm5] at hN9 hat9 ⊢; have PSN := Lib.hid (PS.app0 HPW.out hN9 hg9 hat9); have O9 : Own w9 w1.heap.size _ _ := blk_grown OG hg9 away; have u0 := O9.cell 0; have uz := fun j => O9.fz j; have HB9 := Lib.hid hb9; clear hm5 hb9 hg9 hat9 hN9 hN0 O9 OG away))
        go_roundg (m - (i + 1))
        case measure => omega
        case rel => exact ⟨i + 1, _, _, _, _, by go_num, rfl, by omega, rfl, ⟨by rw [HS.out]; exact HTX.out⟩, ⟨by rw [prM_step0 k i hk, ← HQN.out]; exact PSN.out⟩, ⟨HRW.out.trans ((HB9.out.mono (Nat.le_succ _)).setCell (Nat.le_refl _) _)⟩⟩
      · have hk0 : ((k : Int) % 3 == 1) = true := by rw [beq_iff_eq]; omega
        have hk5 : ((k : Int) % 3 == 0) = false := by rw [beq_eq_false_iff_ne]; omega
        have z1 : (9223372036854775807 < S.size + 5) = False := eq_false (by omega)
        have z2 : (9223372036854775807 < S.size + 5 + (1 + q.size)) = False := eq_false (by omega)
        have z3 : (9223372036854775807 < S.size + 5 + (1 + q.size) + 12) = False := eq_false (by omega)
        have hbW := below_alloc (Below.refl wr.heap.size wr) (.cells #[.int .u8 (97 + (i : Int) / 10), .int .u8 (48 + (i : Int) % 10)] 5)
        have HRW := Lib.hid (HR.out.trans (hbW.mono HR.out.size))
        have HTX := Lib.hid (txM_step1 k i hk q HQN.out)
        have HPW := HP.out.below hbW
        obtain ⟨A0, c0, rfl, hc0⟩ := HPW.s1
        obtain ⟨n0, hn0⟩ : ∃ n0, (prM k i).f1.length = n0 := ⟨_, rfl⟩
        have hn1 : n0 ≤ 36 := by rw [← hn0]; exact Nat.le_trans (prM_len k i).2.1 (by omega)
        have OG : Own (wr.alloc (.cells #[.int .u8 (97 + (i : Int) / 10), .int .u8 (48 + (i : Int) % 10)] 5)) w1.heap.size _ _ := HPW.blk
        have g0 := OG.cell 1
        rw [hn0] at g0
        skip
        have hN0 := HPW.n1
        have away : some w1.heap.size ≠ (Value.slice A0 (prM k i).f1.length c0).ownBlock := Kd.N_away hN0 (fun q hq => by have := hq.1; omega)
        have hgW := HPW.lt
        have L0 := Kd.N_lt HPW.n0
        have L1 := Kd.N_lt HPW.n1
        have L2 := Kd.N_lt HPW.n2
        have HPW := Lib.hid HPW
        go_wp2_with (first | ((with_reducible refine gate_builtin (b := .append) (xs := #[.tmp 60, .tmp 63]) rfl ?_); at_builtin; refine Kd.N_append k87 (w0 := (wr.alloc (.cells #[.int .u8 (97 + (i : Int) / 10), .int .u8 (48 + (i : Int) % 10)] 5))) (w1.heap.size + 1) rfl (.tmp 60) (.tmp 63) 61 87 (.agg #[.string ⟨#[]⟩, .string ⟨#[]⟩, .int .i64 0]) 40 rfl Tryz.underlying61 infoDl rfl (by decide) (by omega) (.slice A0 n0 c0) (prM k i).f1 (⟨(⟨#[118]⟩ : ByteArray) ++ q, ⟨#[76, 111]⟩, 3⟩ : Dl) [.string ((⟨#[118]⟩ : ByteArray) ++ q), .string ⟨#[76, 111]⟩, .int .i64 3] (fun k => w1.heap.size < k ∧ some k ≠ v0.ownBlock ∧ some k ≠ v2.ownBlock) (fun _ => False) rfl (by rw [show (Array.size (World.heap (wr.alloc (.cells #[.int .u8 (97 + (i : Int) / 10), .int .u8 (48 + (i : Int) % 10)] 5)))) = wr.heap.size + 1 by simp]; first | done | rfl) ?aP ?aK ?aF ?aO (Below.refl _ _) ?aS ?aL ?_; (case aP => exact (k87_mkF _ _ _)); (case aK => exact (fun _ hk => hk.elim)); (case aF => exact (fun k hk => ⟨by omega, fun he => by have := L0 k he.symm; omega, fun he => by have := L2 k he.symm; omega⟩)); (case aO => rw [← hn0]; exact hN0); (case aS => omega); (case aL => rw [hn0]; omega); intro u w9 hN9 hb9 hg9 hat9; rw [← hn0] at hg9 hat9; obtain ⟨A5, c5, rfl⟩ := Kd.N_slice hN9; obtain ⟨m5, hm5⟩ : ∃ m5, ((prM k i).f1 ++ [(⟨(⟨#[118]⟩ : ByteArray) ++ q, ⟨#[76, 111]⟩, 3⟩ : Dl)]).length = m5 := ⟨_, rfl⟩; rw [hm5] at hN9 hat9 ⊢; have PSN := Lib.hid (PS.app1 HPW.out hN9 hg9 hat9); have O9 : Own w9 w1.heap.size _ _ := blk_grown OG hg9 away; have u0 := O9.cell 1; have uz := fun j => O9.fz j; have HB9 := Lib.hid hb9; clear hm5 hb9 hg9 hat9 hN9 hN0 O9 OG away))
        go_roundg (m - (i + 1))
        case measure => omega
        case rel => exact ⟨i + 1, _, _, _, _, by go_num, rfl, by omega, rfl, ⟨by rw [HS.out]; exact HTX.out⟩, ⟨by rw [prM_step1 k i hk, ← HQN.out]; exact PSN.out⟩, ⟨HRW.out.trans ((HB9.out.mono (Nat.le_succ _)).setCell (Nat.le_refl _) _)⟩⟩
      · have hk0 : ((k : Int) % 3 == 2) = true := by rw [beq_iff_eq]; omega
        have hk5 : ((k : Int) % 3 == 0) = false := by rw [beq_eq_false_iff_ne]; omega
        have hk6 : ((k : Int) % 3 == 1) = false := by rw [beq_eq_false_iff_ne]; omega
        have z1 : (9223372036854775807 < S.size + 4) = False := eq_false (by omega)
        have z2 : (9223372036854775807 < S.size + 4 + (1 + q.size)) = False := eq_false (by omega)
        have z3 : (9223372036854775807 < S.size + 4 + (1 + q.size) + 16) = False := eq_false (by omega)
        have hbW0 := below_alloc (Below.refl wr.heap.size wr) (.cells #[.int .u8 (97 + (i : Int) / 10), .int .u8 (48 + (i : Int) % 10)] 5)
        have hbW := below_alloc hbW0 (.cells #[.int .i64 2, .string ⟨#[120]⟩, .int .i64 0, .slice none 0 0] 26)
        have HRW := Lib.hid (HR.out.trans (hbW.mono HR.out.size))
        have HTX := Lib.hid (txM_step2 k i hk q HQN.out)
        have HX := Lib.hid (show Kd.F k26 ((wr.alloc (.cells #[.int .u8 (97 + (i : Int) / 10), .int .u8 (48 + (i : Int) % 10)] 5)).alloc (.cells #[.int .i64 2, .string ⟨#[120]⟩, .int .i64 0, .slice none 0 0] 26)) (fun k => wr.heap.size + 1 ≤ k) (some ⟨wr.heap.size + 1, 0, none⟩) 1 [(⟨2, ⟨#[120]⟩, 0, []⟩ : Tm)] from by
          have h := kidF (wr.alloc (.cells #[.int .u8 (97 + (i : Int) / 10), .int .u8 (48 + (i : Int) % 10)] 5))
          rw [show (World.heap (wr.alloc (.cells #[.int .u8 (97 + (i : Int) / 10), .int .u8 (48 + (i : Int) % 10)] 5))).size = wr.heap.size + 1 by simp] at h
          exact h)
        have M0 := Kd.N_lt HP.out.n0
        have M1 := Kd.N_lt HP.out.n1
        have M2 := Kd.N_lt HP.out.n2
        have hgr := HP.out.lt
        have HPV := HP.out.below hbW0
        have HPW := HP.out.below hbW
        obtain ⟨A0, c0, rfl, hc0⟩ := HPW.s2
        obtain ⟨n0, hn0⟩ : ∃ n0, (prM k i).f2.length = n0 := ⟨_, rfl⟩
        have hn1 : n0 ≤ 36 := by rw [← hn0]; exact Nat.le_trans (prM_len k i).2.2 (by omega)
        have OG : Own ((wr.alloc (.cells #[.int .u8 (97 + (i : Int) / 10), .int .u8 (48 + (i : Int) % 10)] 5)).alloc (.cells #[.int .i64 2, .string ⟨#[120]⟩, .int .i64 0, .slice none 0 0] 26)) w1.heap.size _ _ := HPW.blk
        have g0 := OG.cell 2
        rw [hn0] at g0
        have g1 : World.cell? (wr.alloc (.cells #[.int .u8 (97 + (i : Int) / 10), .int .u8 (48 + (i : Int) % 10)] 5)) ⟨w1.heap.size, 2, none⟩ = some (.slice A0 n0 c0) := by rw [← hn0, blk_cell HPV.blk]; rfl
        clear HPV
        have hN0 := HPW.n2
        have away : some w1.heap.size ≠ (Value.slice A0 (prM k i).f2.length c0).ownBlock := Kd.N_away hN0 (fun q hq => by have := hq.1; omega)
        have hgW := HPW.lt
        have L0 := Kd.N_lt HPW.n0
        have L1 := Kd.N_lt HPW.n1
        have L2 := Kd.N_lt HPW.n2
        have HPW := Lib.hid HPW
        go_wp2_with (first | ((with_reducible refine gate_builtin (b := .append) (xs := #[.tmp 74, .tmp 80]) rfl ?_); at_builtin; refine Kd.N_append k89 (w0 := ((wr.alloc (.cells #[.int .u8 (97 + (i : Int) / 10), .int .u8 (48 + (i : Int) % 10)] 5)).alloc (.cells #[.int .i64 2, .string ⟨#[120]⟩, .int .i64 0, .slice none 0 0] 26))) (w1.heap.size + 1) rfl (.tmp 74) (.tmp 80) 62 89 (.agg #[.string ⟨#[]⟩, .int .i64 0, .string ⟨#[]⟩, .int .i64 0, .slice none 0 0]) 72 rfl Tryz.underlying62 infoDf rfl (by decide) (by omega) (.slice A0 n0 c0) (prM k i).f2 (⟨(⟨#[118]⟩ : ByteArray) ++ q, ⟨3, ⟨#[120]⟩, 0, [⟨2, ⟨#[120]⟩, 0, []⟩]⟩⟩ : Df) [.string ((⟨#[118]⟩ : ByteArray) ++ q), .int .i64 3, .string ⟨#[120]⟩, .int .i64 0, .slice (some ⟨wr.heap.size + 1, 0, none⟩) 1 1] (fun k => w1.heap.size < k ∧ some k ≠ v0.ownBlock ∧ some k ≠ v1.ownBlock) (fun k => wr.heap.size + 1 ≤ k) rfl (by rw [show (Array.size (World.heap ((wr.alloc (.cells #[.int .u8 (97 + (i : Int) / 10), .int .u8 (48 + (i : Int) % 10)] 5)).alloc (.cells #[.int .i64 2, .string ⟨#[120]⟩, .int .i64 0, .slice none 0 0] 26)))) = wr.heap.size + 1 + 1 by simp]; first | done | rfl) ?aP ?aK ?aF ?aO (Below.refl _ _) ?aS ?aL ?_; (case aP => exact (k89_mkF _ _ (⟨(⟨#[118]⟩ : ByteArray) ++ q, ⟨3, ⟨#[120]⟩, 0, [⟨2, ⟨#[120]⟩, 0, []⟩]⟩⟩ : Df) (Nat.le_refl _) HX.out)); (case aK => exact (fun k hk => ⟨⟨by omega, fun he => by have := M0 k he.symm; omega, fun he => by have := M1 k he.symm; omega⟩, fun he => by have := M2 k (by rw [← hn0] at he; exact he.symm); omega⟩)); (case aF => exact (fun k hk => ⟨by omega, fun he => by have := L0 k he.symm; omega, fun he => by have := L1 k he.symm; omega⟩)); (case aO => rw [← hn0]; exact hN0); (case aS => omega); (case aL => rw [hn0]; omega); intro u w9 hN9 hb9 hg9 hat9; rw [← hn0] at hg9 hat9; obtain ⟨A5, c5, rfl⟩ := Kd.N_slice hN9; obtain ⟨m5, hm5⟩ : ∃ m5, ((prM k i).f2 ++ [(⟨(⟨#[118]⟩ : ByteArray) ++ q, ⟨3, ⟨#[120]⟩, 0, [⟨2, ⟨#[120]⟩, 0, []⟩]⟩⟩ : Df)]).length = m5 := ⟨_, rfl⟩; rw [hm5] at hN9 hat9 ⊢; have PSN := Lib.hid (PS.app2 HPW.out hN9 hg9 hat9); have O9 : Own w9 w1.heap.size _ _ := blk_grown OG hg9 away; have u0 := O9.cell 2; have uz := fun j => O9.fz j; have HB9 := Lib.hid hb9; clear hm5 hb9 hg9 hat9 hN9 hN0 O9 OG away))
        go_roundg (m - (i + 1))
        case measure => omega
        case rel => exact ⟨i + 1, _, _, _, _, by go_num, rfl, by omega, rfl, ⟨by rw [HS.out]; exact HTX.out⟩, ⟨by rw [prM_step2 k i hk, ← HQN.out]; exact PSN.out⟩, ⟨HRW.out.trans ((HB9.out.mono (Nat.le_succ _)).setCell (Nat.le_refl _) _)⟩⟩
    · have hdd : decide ((i : Int) < (m : Int)) = false := by rw [decide_eq_false_iff_not]; omega
      have him : i = m := by omega
      subst him
      obtain ⟨A0, c0, rfl, hc0⟩ := HP.out.s0
      obtain ⟨A1, c1, rfl, hc1⟩ := HP.out.s1
      obtain ⟨A2, c2, rfl, hc2⟩ := HP.out.s2
      have OG : Own wr w1.heap.size _ _ := HP.out.blk
      have gz := fun i => OG.fz i
      have q3 := OG.cell 3
      have q4 := OG.cell 4
      have q5 := OG.cell 5
      have q6 := OG.cell 6
      have O6 := four3_own OG (d := .int .i64 1) (e := .string ⟨#[]⟩) (f := .int .i64 0) (g := .slice none 0 0)
      have hgw := HP.out.lt
      have hpc : PgC ((((wr.setCell ⟨w1.heap.size, 3, none⟩ (.int .i64 1)).setCell ⟨w1.heap.size, 4, none⟩ (.string ⟨#[]⟩)).setCell ⟨w1.heap.size, 5, none⟩ (.int .i64 0)).setCell ⟨w1.heap.size, 6, none⟩ (.slice none 0 0)) (prF k i) A0 c0 A1 c1 A2 c2 none 0 := by
        have N0 := four3_N (R := w1.heap.size) (d := .int .i64 1) (e := .string ⟨#[]⟩) (f := .int .i64 0) (g := .slice none 0 0) HP.out.n0 (fun k hk => by have := hk.1; omega)
        have N1 := four3_N (R := w1.heap.size) (d := .int .i64 1) (e := .string ⟨#[]⟩) (f := .int .i64 0) (g := .slice none 0 0) HP.out.n1 (fun k hk => by have := hk.1; omega)
        have N2 := four3_N (R := w1.heap.size) (d := .int .i64 1) (e := .string ⟨#[]⟩) (f := .int .i64 0) (g := .slice none 0 0) HP.out.n2 (fun k hk => by have := hk.1; omega)
        exact ⟨(Kd.N_reads' N0).2.2, hc0, (Kd.N_reads' N1).2.2, hc1, (Kd.N_reads' N2).2.2, hc2, ⟨none, 0, rfl, Nat.le_refl _, C_nilK _ _⟩⟩
      have HPC := Lib.hid hpc
      have HB5 := Lib.hid (HB.out.trans ((four3_below (R := w1.heap.size) (d := .int .i64 1) (e := .string ⟨#[]⟩) (f := .int .i64 0) (g := .slice none 0 0) HR.out (Nat.le_refl _)).mono HB.out.size))
      have hSz : S.size ≤ 2000 := by rw [HS.out, B_size]; have := txM_len k i; omega
      have z0 : (9223372036854775807 < S.size + 1) = False := eq_false (by omega)
      have hst : S ++ ⟨#[48]⟩ = B (txM (k % 3) i ++ [48]) := by rw [HS.out, txM_mod k i, show (⟨#[48]⟩ : ByteArray) = B [48] from rfl, B_append]
      obtain ⟨hR2, hsm, hrt, hln⟩ := chk_all (k % 3) i (Nat.mod_lt _ (by decide)) hmb.1 hmb.2
      have hpf : prF (k % 3) i = prF k i := by unfold prF; rw [prM_mod k i]
      rw [hpf] at hsm hrt
      have KP := fun W hG => parse6 (txM (k % 3) i ++ [48]) (by rw [List.length_append]; have := txM_len (k % 3) i; simp; omega) (progR (txM (k % 3) i ++ [48])).1 (progR (txM (k % 3) i ++ [48])).2 rfl W hG
      rw [← hst] at KP
      generalize progR (txM (k % 3) i ++ [48]) = R at *
      obtain ⟨R1, R2⟩ := R
      have KP := Lib.hid KP
      have KR := Lib.hid (fun W hp hG => prgRightC (prF k i) (ok_prF k i) A0 c0 A1 c1 A2 c2 none 0 W hp hG)
      rw [hrt] at KR
      have HSM := Lib.hid hsm
      have HLN := Lib.hid hln
      simp only at hR2
      have HST := Lib.hid hst
      clear hpc hsm hrt hln hpf hst HS HB HR
      go_wp2_with fail
      refine (KP.out _ (HG.out.below HB5.out).g).mono ?_
      rintro e w6 ⟨B0, e0, B1, e1, B2, e2, B3, e3, rfl, hQ, hb⟩
      have O6 := O6.keep hb
      have hA6 := below_alloc (Below.refl w6.heap.size w6) (.cells (pgA R1 B0 e0 B1 e1 B2 e2 B3 e3) 64)
      have O6 := O6.keep hA6
      have O7 := Own.new w6 (pgA R1 B0 e0 B1 e1 B2 e2 B3 e3) 64
      have hbA := hb.trans (hA6.mono hb.size)
      have HPC := Lib.hid (HPC.out.below hbA)
      have HQ := Lib.hid (hQ.below hA6)
      have HB6 := Lib.hid (HB5.out.trans (hbA.mono HB5.out.size))
      clear hb hA6 hbA hQ
      have d0 : World.cell? (w6.alloc (.cells (pgA R1 B0 e0 B1 e1 B2 e2 B3 e3) 64)) ⟨w1.heap.size, 0, none⟩ = some (.slice A0 (prM k i).f0.length c0) := O6.cell 0
      have d1 : World.cell? (w6.alloc (.cells (pgA R1 B0 e0 B1 e1 B2 e2 B3 e3) 64)) ⟨w1.heap.size, 1, none⟩ = some (.slice A1 (prM k i).f1.length c1) := O6.cell 1
      have d2 : World.cell? (w6.alloc (.cells (pgA R1 B0 e0 B1 e1 B2 e2 B3 e3) 64)) ⟨w1.heap.size, 2, none⟩ = some (.slice A2 (prM k i).f2.length c2) := O6.cell 2
      have d3 : World.cell? (w6.alloc (.cells (pgA R1 B0 e0 B1 e1 B2 e2 B3 e3) 64)) ⟨w1.heap.size, 3, none⟩ = some (.int .i64 1) := O6.cell 3
      have d4 : World.cell? (w6.alloc (.cells (pgA R1 B0 e0 B1 e1 B2 e2 B3 e3) 64)) ⟨w1.heap.size, 4, none⟩ = some (.string ⟨#[]⟩) := O6.cell 4
      have d5 : World.cell? (w6.alloc (.cells (pgA R1 B0 e0 B1 e1 B2 e2 B3 e3) 64)) ⟨w1.heap.size, 5, none⟩ = some (.int .i64 0) := O6.cell 5
      have d6 : World.cell? (w6.alloc (.cells (pgA R1 B0 e0 B1 e1 B2 e2 B3 e3) 64)) ⟨w1.heap.size, 6, none⟩ = some (.slice none 0 0) := O6.cell 6
      have f0 := O7.cell 0
      have f1 := O7.cell 1
      have f2 := O7.cell 2
      have f3 := O7.cell 3
      have f4 := O7.cell 4
      have f5 := O7.cell 5
      have f6 := O7.cell 6
      by_cases h32 : 32 < i
      · have h32d : decide ((32 : Int) < (i : Int)) = true := by rw [decide_eq_true_eq]; omega
        rw [if_pos h32] at hR2
        have hR2b : (R2 == 1) = true := by rw [hR2]; rfl
        have hle : decide (i ≤ 32) = false := by rw [decide_eq_false_iff_not]; omega
        rw [hle] at KR
        clear hR2
        go_wp2_with fail
        refine (KR.out _ HPC.out (HG.out.below HB6.out)).mono ?_
        rintro e w8 ⟨rfl, hb⟩
        have HB8 := Lib.hid (HB6.out.trans (hb.mono HB6.out.size))
        clear hb
        go_wp2_with fail
        go_ret
        exact ⟨rfl, HB8.out⟩
      · have h32d : decide ((32 : Int) < (i : Int)) = false := by rw [decide_eq_false_iff_not]; omega
        rw [if_neg h32] at hR2
        have hR2b : (R2 == 0) = true := by rw [hR2]; rfl
        have hle : decide (i ≤ 32) = true := by rw [decide_eq_true_eq]; omega
        rw [hle] at KR
        have KS := Lib.hid (prgSameC R1 (prF k i) (by have := HLN.out.1; omega) (by have := HLN.out.2; omega) B0 e0 B1 e1 B2 e2 B3 e3 A0 c0 A1 c1 A2 c2 none 0 _ HQ.out HPC.out)
        rw [show samePrg R1 (prF k i) = true from HSM.out (by omega)] at KS
        clear hR2
        go_wp2_with fail
        refine KS.out.mono ?_
        rintro e w8 ⟨rfl, hb⟩
        have O6 := O6.keep hb
        have HPC := Lib.hid (HPC.out.below hb)
        have HB8 := Lib.hid (HB6.out.trans (hb.mono HB6.out.size))
        clear hb d0 d1 d2 d3 d4 d5 d6
        have d0 : World.cell? w8 ⟨w1.heap.size, 0, none⟩ = some (.slice A0 (prM k i).f0.length c0) := O6.cell 0
        have d1 : World.cell? w8 ⟨w1.heap.size, 1, none⟩ = some (.slice A1 (prM k i).f1.length c1) := O6.cell 1
        have d2 : World.cell? w8 ⟨w1.heap.size, 2, none⟩ = some (.slice A2 (prM k i).f2.length c2) := O6.cell 2
        have d3 : World.cell? w8 ⟨w1.heap.size, 3, none⟩ = some (.int .i64 1) := O6.cell 3
        have d4 : World.cell? w8 ⟨w1.heap.size, 4, none⟩ = some (.string ⟨#[]⟩) := O6.cell 4
        have d5 : World.cell? w8 ⟨w1.heap.size, 5, none⟩ = some (.int .i64 0) := O6.cell 5
        have d6 : World.cell? w8 ⟨w1.heap.size, 6, none⟩ = some (.slice none 0 0) := O6.cell 6
        go_wp2_with fail
        refine (KR.out _ HPC.out (HG.out.below HB8.out)).mono ?_
        rintro e w9 ⟨rfl, hb⟩
        have HB9 := Lib.hid (HB8.out.trans (hb.mono HB8.out.size))
        clear hb
        go_wp2_with fail
        go_ret
        exact ⟨rfl, HB9.out⟩
end Go.Proofs.YtchekgnacodolaaGreatDoor.X

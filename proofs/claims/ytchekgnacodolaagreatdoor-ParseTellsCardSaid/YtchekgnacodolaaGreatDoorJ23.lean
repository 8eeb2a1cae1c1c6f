-- Joined by our own program (wip/tools/prune.py) out of the seat's texts, less what this claim doesn't name.
import Derived.Deep.QuietTactic
import Derived.IntWalk
import Derived.Test.YtchekgnacodolaaGreatDoorJ18
import Derived.Test.YtchekgnacodolaaGreatDoorJ21
set_option maxHeartbeats 4000000
set_option maxRecDepth 100000
section
namespace Go.Proofs.YtchekgnacodolaaGreatDoor.X
open Go.RowKit Go.Proofs.YtchekgnacodolaaGreatDoorW.PrintWords Go.Proofs.YtchekgnacodolaaGreatDoorW.PrintLast Go.Proofs.YtchekgnacodolaaGreatDoorW.PrintMore
set_option linter.unusedSimpArgs false
set_option linter.unusedVariables false
def TokC (w : World) (A : Option Addr) (l : List TokT) : Prop := l.length ≤ 9223372036854775807 ∧ ∀ (j : Nat) x, l[j]? = some x → ∃ ad, A = some ad ∧ w.cell? (ad.add (j * 3)) = some (.int .i64 x.f0) ∧ w.cell? ⟨(ad.add (j * 3)).block, (ad.add (j * 3)).off + 1, none⟩ = some (.string x.f1) ∧ w.cell? ⟨(ad.add (j * 3)).block, (ad.add (j * 3)).off + 2, none⟩ = some (.int .i64 x.f2)
theorem TokC.below {w w1 : World} {A : Option Addr} {l : List TokT} (h : TokC w A l) (hb : Below w.heap.size w w1) : TokC w1 A l := ⟨h.1, fun j x hj => by
 obtain ⟨ad, hA, h0, h1, h2⟩ := h.2 j x hj
 exact ⟨ad, hA, zqt hb h0, zqt hb h1, zqt hb h2⟩⟩
theorem cell_past {g : Nat} {w w1 : World} {a : Addr} {u : Value} (h : w.cell? a = some u) (hp : Past g w w1) (hg : a.block ≠ g) : w1.cell? a = some u := by
 have hlt := cell_lt h
 rw [World.cell?_of_block (w := w) (hp.block _ hlt hg)]
 exact h
theorem TokC.past {g : Nat} {w w1 : World} {A : Option Addr} {l : List TokT} (h : TokC w A l) (hg : 0 < l.length → ∀ ad, A = some ad → ad.block ≠ g) (hp : Past g w w1) : TokC w1 A l := ⟨h.1, fun j x hj => by
 obtain ⟨ad, hA, h0, h1, h2⟩ := h.2 j x hj
 have hn : 0 < l.length := by
  obtain ⟨hl, _⟩ := List.getElem?_eq_some_iff.1 hj
  omega
 have hne := hg hn ad hA
 refine ⟨ad, hA, cell_past h0 hp ?_, cell_past h1 hp ?_, cell_past h2 hp ?_⟩ <;> rw [add_block] <;> exact hne⟩
structure Rf (g : Nat) (A : Option Addr) (c : Nat) (b : Bool) (p s : List TokT) (w : World) : Prop where
 blk : w.heap[g]? = some (.cells #[.slice A (p ++ s).length c, .int .i64 (p.length : Int), .bool b] 102 (0, 0))
 rd : TokC w A (p ++ s)
 far : 0 < (p ++ s).length → ∀ ad, A = some ad → ad.block ≠ g
 ok : ∀ x ∈ p ++ s, 1 ≤ x.f0
section
variable {w w1 : World} {g : Nat} {A : Option Addr} {c : Nat} {b : Bool} {p s : List TokT}
theorem Rf.lt (h : Rf g A c b p s w) : g < w.heap.size := blk_lt h.blk
theorem Rf.c0 (h : Rf g A c b p s w) : w.cell? ⟨g, 0, none⟩ = some (.slice A (p ++ s).length c) := by rw [zqf h.blk]; rfl
theorem Rf.c1 (h : Rf g A c b p s w) : w.cell? ⟨g, 1, none⟩ = some (.int .i64 (p.length : Int)) := by rw [zqf h.blk]; rfl
theorem Rf.c2 (h : Rf g A c b p s w) : w.cell? ⟨g, 2, none⟩ = some (.bool b) := by rw [zqf h.blk]; rfl
theorem Rf.fz (h : Rf g A c b p s w) (j : Nat) : w.frozen? ⟨g, j, none⟩ = false := zqd h.blk j
theorem Rf.len (h : Rf g A c b p s w) : (p ++ s).length ≤ 9223372036854775807 := h.rd.1
theorem Rf.below (h : Rf g A c b p s w) (hb : Below w.heap.size w w1) : Rf g A c b p s w1 := ⟨zqn h.blk hb, h.rd.below hb, h.far, h.ok⟩
theorem Rf.step {x : TokT} (h : Rf g A c b p (x :: s) w) : Rf g A c b (p ++ [x]) s (w.setCell ⟨g, 1, none⟩ (.int .i64 ((p.length : Int) + 1))) := by
 have e : p ++ [x] ++ s = p ++ x :: s := by simp
 have hp : Past g w (w.setCell ⟨g, 1, none⟩ (.int .i64 ((p.length : Int) + 1))) := (Past.refl g w).set 1 _
 refine ⟨?_, by rw [e]; exact h.rd.past h.far hp, by rw [e]; exact h.far, by rw [e]; exact h.ok⟩
 have := blk_set h.blk 1 (.int .i64 ((p.length : Int) + 1))
 rw [this, e]
 have hl : (((p ++ [x]).length : Nat) : Int) = (p.length : Int) + 1 := by rw [List.length_append]; rfl
 rw [hl]; rfl
theorem Rf.bad (h : Rf g A c b p s w) : Rf g A c true p s (w.setCell ⟨g, 2, none⟩ (.bool true)) := by
 have hp : Past g w (w.setCell ⟨g, 2, none⟩ (.bool true)) := (Past.refl g w).set 2 _
 refine ⟨?_, h.rd.past h.far hp, h.far, h.ok⟩
 have := blk_set h.blk 2 (.bool true)
 rw [this]; rfl
theorem Rf.get {x : TokT} (h : Rf g A c b p (x :: s) w) : ∃ ad, A = some ad ∧ w.cell? (ad.add (p.length * 3)) = some (.int .i64 x.f0) ∧ w.cell? ⟨(ad.add (p.length * 3)).block, (ad.add (p.length * 3)).off + 1, none⟩ = some (.string x.f1) ∧ w.cell? ⟨(ad.add (p.length * 3)).block, (ad.add (p.length * 3)).off + 2, none⟩ = some (.int .i64 x.f2) :=
 h.rd.2 p.length x (by rw [List.getElem?_append_right (Nat.le_refl _), Nat.sub_self]; rfl)
end
theorem rfIs (m : ByteArray) (g : Nat) (A : Option Addr) (c : Nat) (b : Bool) (p s : List TokT) (w : World) (h : Rf g A c b p s w) :
  Calls Tryz.prog 147 #[.pointer (some ⟨g, 0, none⟩), .string m] w fun e w' => e = .returned (.bool (isL s m)) ∧ ∃ k, w' = w.drewN k := by
 have h0 := h.c0
 have h1 := h.c1
 have hlt := h.lt
 have hlen := h.len
 cases s with
 | nil =>
  rw [isL_nil]
  have hd : decide (p.length < (p ++ []).length) = false := by simp
  clear h
  generalize (p ++ []).length = n at *
  generalize p.length = i at *
  go_enter Tryz.func147, Tryz.ntmps147
  go_wp2_with fail
  go_quiet (fail)
  go_wp2_with fail
  go_ret
  exact ⟨rfl, _, rfl⟩
 | cons x s =>
  obtain ⟨ad, rfl, k0, k1, k2⟩ := h.get
  have hd : decide (p.length < (p ++ x :: s).length) = true := by simp
  have p1 : (0 ≤ (p.length : Int)) = True := eq_true (by omega)
  have p2 : ((p.length : Int) < ((p ++ x :: s).length : Int)) = True := eq_true (by simp; omega)
  have hfin : Hid (isL (x :: s) m = (decide (3 ≤ x.f0) && (x.f1.toList == m.toList))) := Lib.hid (by unfold isL; rw [ByteArray.toList_eq, ByteArray.toList_eq]; rfl)
  clear h
  generalize isL (x :: s) m = r at *
  generalize (p ++ x :: s).length = n at *
  generalize p.length = i at *
  by_cases h3 : 3 ≤ x.f0
  ·have hd3 : decide (3 ≤ x.f0) = true := by simpa using h3
   go_enter Tryz.func147, Tryz.ntmps147
   go_wp2_with fail
   go_quiet (fail)
   go_wp2_with fail
   go_ret
   exact ⟨by rw [hfin.out, hd3]; rfl, _, rfl⟩
  ·have hd3 : decide (3 ≤ x.f0) = false := by simpa using h3
   go_enter Tryz.func147, Tryz.ntmps147
   go_wp2_with fail
   go_quiet (fail)
   go_wp2_with fail
   go_ret
   exact ⟨by rw [hfin.out, hd3]; rfl, _, rfl⟩
theorem Rf.drewN {w : World} {g : Nat} {A : Option Addr} {c : Nat} {b : Bool} {p s : List TokT} (h : Rf g A c b p s w) (n : Nat) : Rf g A c b p s (w.drewN n) := h.below (zqa (Below.refl _ _) _)
theorem rfTake (m : ByteArray) (g : Nat) (A : Option Addr) (c : Nat) (b : Bool) (p s : List TokT) (w : World) (h : Rf g A c b p s w) :
  Calls Tryz.prog 92 #[.pointer (some ⟨g, 0, none⟩), .string m] w fun e w' => e = .returned (.bool (isL s m)) ∧ Past g w w' ∧ (isL s m = false → Rf g A c b p s w') ∧ (isL s m = true → ∃ x r, s = x :: r ∧ Rf g A c b (p ++ [x]) r w') := by
 have HK := Lib.hid (rfIs m g A c b p s w h)
 have H := Lib.hid h
 have hlen := h.len
 have hlt := h.lt
 clear h
 cases hb : isL s m with
 | false =>
  rw [hb] at HK
  clear hb
  go_enter Tryz.func92, Tryz.ntmps92
  go_wp2_with fail
  refine HK.out.mono ?_
  rintro e w1 ⟨rfl, k, rfl⟩
  go_wp2_with fail
  go_ret
  exact ⟨rfl, Past.of_below (zqa (Below.refl _ _) _), fun _ => H.out.drewN _, (fun h => by cases h)⟩
 | true =>
  obtain ⟨x, r, rfl⟩ := isL_ne hb
  rw [hb] at HK
  clear hb
  have hp : (p.length : Int) + 1 ≤ 9223372036854775807 := by simp at hlen; omega
  have hp0 : (0 : Int) ≤ (p.length : Int) := by omega
  go_enter Tryz.func92, Tryz.ntmps92
  go_wp2_with fail
  refine HK.out.mono ?_
  rintro e w1 ⟨rfl, k, hk⟩
  have h1 : Rf g A c b p (x :: r) w1 := hk ▸ H.out.drewN k
  have HB := Lib.hid (show Below w.heap.size w w1 from hk ▸ zqa (Below.refl _ _) _)
  clear hk
  have H1 := Lib.hid h1
  have c1 := h1.c1
  have f1 := h1.fz 1
  clear h1
  go_wp2_with fail
  go_ret
  exact ⟨rfl, (Past.of_below HB.out).set 1 _, (fun h => by cases h), fun _ => ⟨x, r, rfl, H1.out.step⟩⟩
theorem rfMust (m : ByteArray) (g : Nat) (A : Option Addr) (c : Nat) (b : Bool) (p s : List TokT) (w : World) (h : Rf g A c b p s w) :
  Calls Tryz.prog 145 #[.pointer (some ⟨g, 0, none⟩), .string m] w fun e w' => e = .returned (.tuple #[]) ∧ Past g w w' ∧ (isL s m = false → Rf g A c true p s w') ∧ (isL s m = true → ∃ x r, s = x :: r ∧ Rf g A c b (p ++ [x]) r w') := by
 have HK := Lib.hid (rfTake m g A c b p s w h)
 clear h
 cases hb : isL s m with
 | false =>
  rw [hb] at HK
  clear hb
  go_enter Tryz.func145, Tryz.ntmps145
  go_wp2_with fail
  refine HK.out.mono ?_
  rintro e w1 ⟨rfl, hp, h1, -⟩
  have h1 := h1 (by first | rfl | trivial)
  have H1 := Lib.hid h1
  have HP := Lib.hid hp
  have c2 := h1.c2
  have f2 := h1.fz 2
  have hlt := h1.lt
  clear h1 hp
  go_wp2_with fail
  go_end0
  exact ⟨rfl, HP.out.set 2 _, fun _ => H1.out.bad, (fun h => by cases h)⟩
 | true =>
  rw [hb] at HK
  clear hb
  go_enter Tryz.func145, Tryz.ntmps145
  go_wp2_with fail
  refine HK.out.mono ?_
  rintro e w1 ⟨rfl, hp, -, h1⟩
  have H1 := Lib.hid (h1 (by first | rfl | trivial))
  have HP := Lib.hid hp
  clear h1 hp
  go_wp2_with fail
  go_end0
  exact ⟨rfl, HP.out, (fun h => by cases h), fun _ => H1.out⟩
theorem rfName_yes (g : Nat) (A : Option Addr) (c : Nat) (b : Bool) (p : List TokT) (x : TokT) (r : List TokT) (w : World) (h : Rf g A c b p (x :: r) w) (hx : x.f0 = 1) :
  Calls Tryz.prog 144 #[.pointer (some ⟨g, 0, none⟩)] w fun e w' => e = .returned (.string x.f1) ∧ Past g w w' ∧ Rf g A c b (p ++ [x]) r w' := by
 have h0 := h.c0
 have h1 := h.c1
 have hlt := h.lt
 have f1 := h.fz 1
 have hlen := h.len
 obtain ⟨ad, rfl, k0, k1, k2⟩ := h.get
 have hneg : ad.block ≠ g := h.far (by simp; omega) ad rfl
 have hne : (ad.add (p.length * 3)).block ≠ g := by rw [add_block]; exact hneg
 have hd : decide ((p ++ x :: r).length ≤ p.length) = false := by simp
 have p1 : (0 ≤ (p.length : Int)) = True := eq_true (by omega)
 have p2 : ((p.length : Int) < ((p ++ x :: r).length : Int)) = True := eq_true (by simp; omega)
 have hp : (p.length : Int) + 1 ≤ 9223372036854775807 := by simp at hlen; omega
 have H := Lib.hid h
 rw [hx] at k0
 have hm1 : IntKind.i64.wrap ((p.length : Int) + 1 - 1) = (p.length : Int) := by rw [Int.add_sub_cancel]; exact IntWalk.i64_in _ (by constructor <;> omega)
 clear h hx hlen
 generalize hn : (p ++ x :: r).length = n at *
 generalize hi : p.length = i at *
 have HN := Lib.hid hn
 have HI := Lib.hid hi
 clear hn hi
 go_enter Tryz.func144, Tryz.ntmps144
 go_wp2_with fail
 go_quiet (fail)
 go_wp2_with fail
 go_quiet (fail)
 go_wp2_with fail
 go_ret
 have hi := HI.out
 subst hi
 exact ⟨rfl, ((Past.of_below (zqa (Below.refl _ _) _)).set 1 _).trans (Past.of_below (zqa (Below.refl _ _) _)), ((H.out.drewN _).step).drewN _⟩
theorem rfName_no (g : Nat) (A : Option Addr) (c : Nat) (b : Bool) (p s : List TokT) (w : World) (h : Rf g A c b p s w) (hx : (peekL s).f0 ≠ 1) :
  Calls Tryz.prog 144 #[.pointer (some ⟨g, 0, none⟩)] w fun e w' => e = .returned (.string noName) ∧ Past g w w' ∧ Rf g A c true p s w' := by
 have h0 := h.c0
 have h1 := h.c1
 have h2 := h.c2
 have hlt := h.lt
 have f2 := h.fz 2
 have H := Lib.hid h
 cases s with
 | nil =>
  have hd : decide ((p ++ []).length ≤ p.length) = true := by simp
  clear h hx
  generalize (p ++ []).length = n at *
  generalize p.length = i at *
  go_enter Tryz.func144, Tryz.ntmps144
  go_wp2_with fail
  go_quiet (fail)
  go_wp2_with fail
  go_ret
  exact ⟨rfl, (Past.of_below (zqa (Below.refl _ _) _)).set 2 _, (H.out.drewN _).bad⟩
 | cons x s =>
  obtain ⟨ad, rfl, k0, k1, k2⟩ := h.get
  have hd : decide ((p ++ x :: s).length ≤ p.length) = false := by simp
  have p1 : (0 ≤ (p.length : Int)) = True := eq_true (by omega)
  have p2 : ((p.length : Int) < ((p ++ x :: s).length : Int)) = True := eq_true (by simp; omega)
  have hd1 : (x.f0 == 1) = false := by simpa [peekL] using hx
  clear h hx
  generalize (p ++ x :: s).length = n at *
  generalize p.length = i at *
  go_enter Tryz.func144, Tryz.ntmps144
  go_wp2_with fail
  go_quiet (fail)
  go_wp2_with fail
  go_ret
  exact ⟨rfl, (Past.of_below (zqa (Below.refl _ _) _)).set 2 _, (H.out.drewN _).bad⟩
theorem rfBegins (g : Nat) (A : Option Addr) (c : Nat) (b : Bool) (p s : List TokT) (w : World) (h : Rf g A c b p s w) :
  Calls Tryz.prog 200 #[.pointer (some ⟨g, 0, none⟩)] w fun e w' => e = .returned (.bool (beginsL s)) ∧ ∃ k, w' = w.drewN k := by
 have h0 := h.c0
 have h1 := h.c1
 have hlt := h.lt
 have KC : Aside0 (∀ m k, Calls Tryz.prog 147 #[.pointer (some ⟨g, 0, none⟩), .string m] (w.drewN k) fun e w' => e = .returned (.bool (isL s m)) ∧ ∃ j, w' = (w.drewN k).drewN j) := Aside0.mk (fun m k => rfIs m g A c b p s _ (h.drewN k))
 cases s with
 | nil =>
  rw [beginsL_nil]
  have i1 := isL_nil ⟨#[40]⟩
  have i2 := isL_nil ⟨#[33]⟩
  have hd : decide (p.length < (p ++ []).length) = false := by simp
  have K1 := Aside0.mk (fun k => KC.out ⟨#[40]⟩ k)
  have K2 := Aside0.mk (fun k => KC.out ⟨#[33]⟩ k)
  rw [i1] at K1
  rw [i2] at K2
  clear h KC i1 i2
  generalize (p ++ []).length = n at *
  generalize p.length = i at *
  go_enter Tryz.func200, Tryz.ntmps200
  go_wp2_with fail
  go_quiet ((go_at_call 147; first | (with_reducible exact Calls.quiet_of (K1.out _)) | (with_reducible exact Calls.quiet_of (K2.out _))))
  go_wp2_with fail
  go_ret
  exact ⟨rfl, _, rfl⟩
 | cons x s =>
  obtain ⟨ad, rfl, k0, k1, k2⟩ := h.get
  have hd : decide (p.length < (p ++ x :: s).length) = true := by simp
  have p1 : (0 ≤ (p.length : Int)) = True := eq_true (by omega)
  have p2 : ((p.length : Int) < ((p ++ x :: s).length : Int)) = True := eq_true (by simp; omega)
  have hk := h.ok x (by simp)
  have hfin : beginsL (x :: s) = if x.f0 ≤ 2 then true else (isL (x :: s) ⟨#[40]⟩ || isL (x :: s) ⟨#[33]⟩) := by
   unfold beginsL
   show (decide (x.f0 = 1) || (decide (x.f0 = 2) || _)) = _
   split
   ·by_cases h1 : x.f0 = 1
    ·simp [h1]
    ·have h2 : x.f0 = 2 := by omega
     simp [h2]
   ·rw [decide_eq_false (by omega), decide_eq_false (by omega)]; rfl
  have K1 := Aside0.mk (fun k => KC.out ⟨#[40]⟩ k)
  have K2 := Aside0.mk (fun k => KC.out ⟨#[33]⟩ k)
  clear h KC
  generalize beginsL (x :: s) = r at *
  generalize isL (x :: s) ⟨#[40]⟩ = b1 at *
  generalize isL (x :: s) ⟨#[33]⟩ = b2 at *
  generalize (p ++ x :: s).length = n at *
  generalize p.length = i at *
  by_cases h3 : x.f0 ≤ 2
  ·rw [if_pos h3] at hfin
   subst hfin
   have hd3 : decide (x.f0 ≤ 2) = true := by simpa using h3
   clear h3 hk
   go_enter Tryz.func200, Tryz.ntmps200
   go_wp2_with fail
   go_quiet (fail)
   go_wp2_with fail
   go_ret
   exact ⟨rfl, _, rfl⟩
  ·rw [if_neg h3] at hfin
   subst hfin
   have hd3 : decide (x.f0 ≤ 2) = false := by simpa using h3
   clear h3 hk
   cases b1 <;> cases b2
   all_goals
    go_enter Tryz.func200, Tryz.ntmps200
    go_wp2_with fail
    go_quiet ((go_at_call 147; first | (with_reducible exact Calls.quiet_of (K1.out _)) | (with_reducible exact Calls.quiet_of (K2.out _))))
    go_wp2_with fail
    go_ret
    exact ⟨rfl, _, rfl⟩
end Go.Proofs.YtchekgnacodolaaGreatDoor.X
end
section
namespace Go.Proofs.YtchekgnacodolaaGreatDoor.X
open Go.RowKit Go.Proofs.YtchekgnacodolaaGreatDoorW.PrintWords Go.Proofs.YtchekgnacodolaaGreatDoorW.PrintLast Go.Proofs.YtchekgnacodolaaGreatDoorW.PrintMore
set_option linter.unusedSimpArgs false
set_option linter.unusedVariables false
abbrev RTm := S32
def tmR (k : Int) (nm : ByteArray) (kids : List RTm) : RTm := ⟨k, nm, 0, kids⟩
mutual
def toR : Tm → RTm
 | ⟨a, b, c, l⟩ => ⟨a, b, c, toRs l⟩
def toRs : List Tm → List RTm
 | [] => []
 | t :: r => toR t :: toRs r
end
def TmF (base : Nat) (w : World) (t : RTm) (v : Value) : Prop := ∃ A c, v = .agg #[.int .i64 t.f0, .string t.f1, .int .i64 t.f2, .slice A t.f3.length c] ∧ t.f3.length ≤ c ∧ ∀ w2, Same base w w2 → Kd.C k32 w2 A t.f3.length t.f3
theorem TmF.same {base : Nat} {w w1 : World} {t : RTm} {v : Value} (h : TmF base w t v) (hp : Same base w w1) : TmF base w1 t v := by
 obtain ⟨A, c, rfl, hl, hC⟩ := h
 exact ⟨A, c, rfl, hl, fun w2 h2 => hC w2 (hp.trans h2)⟩
theorem TmF.mono {base base' : Nat} {w : World} {t : RTm} {v : Value} (h : TmF base w t v) (hb : base' ≤ base) : TmF base' w t v := by
 obtain ⟨A, c, rfl, hl, hC⟩ := h
 exact ⟨A, c, rfl, hl, fun w2 h2 => hC w2 (h2.mono hb)⟩
theorem C_nilF (w : World) : Kd.C k32 w none 0 [] := ⟨rfl, by decide, fun h => absurd h (by decide)⟩
theorem C_litF {w : World} {b : Nat} {ts : List RTm} {cs : Array Value} {T : TypeId} {fr : Nat × Nat} (hb : w.heap[b]? = some (.cells cs T fr)) (hr : Reps (k32.K w) 4 ts cs.toList) (hn : ts.length ≤ 9223372036854775807) : Kd.C k32 w (some ⟨b, 0, none⟩) ts.length ts := by
 refine ⟨rfl, hn, fun _ => ⟨⟨b, 0, none⟩, rfl, fun j p hj => ⟨(cs.toList.drop (j * 4)).take 4, ?_, hr.2 j p hj, fun i u hi => ?_⟩⟩⟩
 ·exact k32.K_len (hr.2 j p hj)
 ·rw [List.getElem?_take] at hi
  split at hi
  ·rw [List.getElem?_drop] at hi
   show w.cell? ((⟨b, 0, none⟩ : Addr).add (j * 4 + i)) = _
   rw [add_plain, World.cell?, hb]
   simpa using hi
  ·cases hi
theorem TmF.K {base : Nat} {w w2 : World} {t : RTm} {A : Option Addr} {c : Nat} (hl : t.f3.length ≤ c) (hC : ∀ w2, Same base w w2 → Kd.C k32 w2 A t.f3.length t.f3) (hp : Same base w w2) : k32.K w2 t [.int .i64 t.f0, .string t.f1, .int .i64 t.f2, .slice A t.f3.length c] := k32_mk w2 t hl (hC w2 hp)
theorem TmF.leaf (base : Nat) (w : World) (k : Int) (nm : ByteArray) (n : Int) : TmF base w ⟨k, nm, n, []⟩ (.agg #[.int .i64 k, .string nm, .int .i64 n, .slice none 0 0]) := ⟨none, 0, rfl, Nat.le_refl _, fun w2 _ => C_nilF w2⟩
theorem TmF.kids1 {base b : Nat} {w : World} {a : RTm} {A : Option Addr} {c : Nat} {fr : Nat × Nat} (k : Int) (nm : ByteArray) (h0 : TmF base w a (.agg #[.int .i64 a.f0, .string a.f1, .int .i64 a.f2, .slice A a.f3.length c]))
  (hb : w.heap[b]? = some (.cells #[.int .i64 a.f0, .string a.f1, .int .i64 a.f2, .slice A a.f3.length c] 32 fr)) (hg : base ≤ b) :
  TmF base w (tmR k nm [a]) (.agg #[.int .i64 k, .string nm, .int .i64 0, .slice (some ⟨b, 0, none⟩) 1 1]) := by
 obtain ⟨_, _, e0, hl0, hC0⟩ := h0
 simp only [Value.agg.injEq, Array.mk.injEq, List.cons.injEq, Value.slice.injEq, true_and, and_true] at e0
 obtain ⟨rfl, rfl⟩ := e0
 exact ⟨_, 1, rfl, Nat.le_refl _, fun w2 hp => C_litF (blk_same hb hp hg) (Reps.c4 (TmF.K hl0 hC0 hp) (Reps.none _ _)) (by show (1 : Nat) ≤ _; decide)⟩
theorem TmF.kids2 {base b : Nat} {w : World} {a a' : RTm} {A A' : Option Addr} {c c' : Nat} {fr : Nat × Nat} (k : Int) (nm : ByteArray) (h0 : TmF base w a (.agg #[.int .i64 a.f0, .string a.f1, .int .i64 a.f2, .slice A a.f3.length c])) (h1 : TmF base w a' (.agg #[.int .i64 a'.f0, .string a'.f1, .int .i64 a'.f2, .slice A' a'.f3.length c']))
  (hb : w.heap[b]? = some (.cells #[.int .i64 a.f0, .string a.f1, .int .i64 a.f2, .slice A a.f3.length c, .int .i64 a'.f0, .string a'.f1, .int .i64 a'.f2, .slice A' a'.f3.length c'] 32 fr)) (hg : base ≤ b) :
  TmF base w (tmR k nm [a, a']) (.agg #[.int .i64 k, .string nm, .int .i64 0, .slice (some ⟨b, 0, none⟩) 2 2]) := by
 obtain ⟨_, _, e0, hl0, hC0⟩ := h0
 obtain ⟨_, _, e1, hl1, hC1⟩ := h1
 simp only [Value.agg.injEq, Array.mk.injEq, List.cons.injEq, Value.slice.injEq, true_and, and_true] at e0 e1
 obtain ⟨rfl, rfl⟩ := e0
 obtain ⟨rfl, rfl⟩ := e1
 exact ⟨_, 2, rfl, Nat.le_refl _, fun w2 hp => C_litF (blk_same hb hp hg) (Reps.c4 (TmF.K hl0 hC0 hp) (Reps.c4 (TmF.K hl1 hC1 hp) (Reps.none _ _))) (by show (2 : Nat) ≤ _; decide)⟩
theorem TmF.kids3 {base b : Nat} {w : World} {a a' a2 : RTm} {A A' A2 : Option Addr} {c c' c2 : Nat} {fr : Nat × Nat} (k : Int) (nm : ByteArray) (h0 : TmF base w a (.agg #[.int .i64 a.f0, .string a.f1, .int .i64 a.f2, .slice A a.f3.length c])) (h1 : TmF base w a' (.agg #[.int .i64 a'.f0, .string a'.f1, .int .i64 a'.f2, .slice A' a'.f3.length c'])) (h2 : TmF base w a2 (.agg #[.int .i64 a2.f0, .string a2.f1, .int .i64 a2.f2, .slice A2 a2.f3.length c2]))
  (hb : w.heap[b]? = some (.cells #[.int .i64 a.f0, .string a.f1, .int .i64 a.f2, .slice A a.f3.length c, .int .i64 a'.f0, .string a'.f1, .int .i64 a'.f2, .slice A' a'.f3.length c', .int .i64 a2.f0, .string a2.f1, .int .i64 a2.f2, .slice A2 a2.f3.length c2] 32 fr)) (hg : base ≤ b) :
  TmF base w (tmR k nm [a, a', a2]) (.agg #[.int .i64 k, .string nm, .int .i64 0, .slice (some ⟨b, 0, none⟩) 3 3]) := by
 obtain ⟨_, _, e0, hl0, hC0⟩ := h0
 obtain ⟨_, _, e1, hl1, hC1⟩ := h1
 obtain ⟨_, _, e2, hl2, hC2⟩ := h2
 simp only [Value.agg.injEq, Array.mk.injEq, List.cons.injEq, Value.slice.injEq, true_and, and_true] at e0 e1 e2
 obtain ⟨rfl, rfl⟩ := e0
 obtain ⟨rfl, rfl⟩ := e1
 obtain ⟨rfl, rfl⟩ := e2
 exact ⟨_, 3, rfl, Nat.le_refl _, fun w2 hp => C_litF (blk_same hb hp hg) (Reps.c4 (TmF.K hl0 hC0 hp) (Reps.c4 (TmF.K hl1 hC1 hp) (Reps.c4 (TmF.K hl2 hC2 hp) (Reps.none _ _)))) (by show (3 : Nat) ≤ _; decide)⟩
theorem ret4F {fn : Func} {p N : Nat} {tmps : Array Value} {w : World} {a b c d : Value} {R : Ending → World → Prop} (h : fn.results = #[.cell p 32]) (hp : tmps.getD p undef = .pointer (some ⟨N, 0, none⟩)) (hb : Own w N #[a, b, c, d] 32) (hR : R (.returned (.agg #[a, b, c, d])) w) : bodyPost Tryz.prog fn R Exit.ret { tmps := tmps, defers := [] } w :=
 bodyPost_ret (results_cell_row h tmps w N 32 #[a, b, c, d] (0, 0) _ hp hb Tryz.underlying32 rfl (by kernel_rfl)) rfl hR
abbrev zeroF : Array Value := #[.int .i64 0, .string ⟨#[]⟩, .int .i64 0, .slice none 0 0]
theorem rfNode (k : Int) (nm : ByteArray) (A : Option Addr) (l c : Nat) (w : World) :
  Calls Tryz.prog 93 #[.int .i64 k, .string nm, .slice A l c] w fun e w' => e = .returned (.agg #[.int .i64 k, .string nm, .int .i64 0, .slice A l c]) ∧ Below w.heap.size w w' := by
 go_enter Tryz.func93, Tryz.ntmps93
 go_wp2_with fail
 refine ret4F rfl rfl (Own.new w _ _) ?_
 exact ⟨rfl, zqb (Below.refl _ _) _⟩
def OutF (g : Nat) (A : Option Addr) (c : Nat) (p s : List TokT) (w : World) (t : Tm) (q : FS) (e : Ending) (w' : World) : Prop :=
 Past g w w' ∧ ∃ v p', e = .returned v ∧ TmF w.heap.size w' (toR t) v ∧ p' ++ q.2 = p ++ s ∧ Rf g A c q.1 p' q.2 w'
def RFH (f : FuncId) (m : Mode) (k : Nat) : Prop := ∀ (g : Nat) (A : Option Addr) (c : Nat) (p : List TokT) (q : FS) (w : World) (t : Tm) (q' : FS), Rf g A c q.1 p q.2 w → frun k m q = some (t, q') →
  Calls Tryz.prog f #[.pointer (some ⟨g, 0, none⟩)] w fun e w' => OutF g A c p q.2 w t q' e w'
end Go.Proofs.YtchekgnacodolaaGreatDoor.X
end
section
namespace Go.Proofs.YtchekgnacodolaaGreatDoor.X
open Go.RowKit Go.Proofs.YtchekgnacodolaaGreatDoorW.PrintWords Go.Proofs.YtchekgnacodolaaGreatDoorW.PrintLast Go.Proofs.YtchekgnacodolaaGreatDoorW.PrintMore
set_option linter.unusedSimpArgs false
set_option linter.unusedVariables false
theorem fthen_some {x : FR} {f : Tm → FS → FR} {r : Tm × FS} (h : x.then_ f = some r) : ∃ t q, x = some (t, q) ∧ f t q = some r := by
 cases x with
 | none => cases h
 | some p => exact ⟨p.1, p.2, rfl, h⟩
theorem RFH.out {f : FuncId} {m : Mode} {k : Nat} (h : RFH f m k) {g : Nat} {A : Option Addr} {c : Nat} {b : Bool} {p s : List TokT} {q' : FS} {t : Tm} {w : World} (hr : Rf g A c b p s w) (e : frun k m (b, s) = some (t, q')) :
  Calls Tryz.prog f #[.pointer (.some ⟨g, 0, none⟩)] w fun e w' => ∃ x A3 c3 p', x = toR t ∧ e = .returned (.agg #[.int .i64 x.f0, .string x.f1, .int .i64 x.f2, .slice A3 x.f3.length c3]) ∧ Past g w w' ∧ TmF w.heap.size w' x (.agg #[.int .i64 x.f0, .string x.f1, .int .i64 x.f2, .slice A3 x.f3.length c3]) ∧ p' ++ q'.2 = p ++ s ∧ Rf g A c q'.1 p' q'.2 w' := by
 refine (h g A c p (b, s) w _ _ hr e).mono ?_
 rintro e w' ⟨hp, v, p', rfl, hv, he, hr'⟩
 obtain ⟨A3, c3, rfl, hl, hC⟩ := hv
 exact ⟨_, A3, c3, p', rfl, rfl, hp, ⟨A3, c3, rfl, hl, hC⟩, he, hr'⟩
theorem Rf.old {g : Nat} {A : Option Addr} {c : Nat} {b b0 : Bool} {p s p0 s0 : List TokT} {w0 w w1 : World} (h0 : Rf g A c b0 p0 s0 w0) (hpp : p ++ s = p0 ++ s0) (h : Rf g A c b p s w) (hb : Below w0.heap.size w w1) : Rf g A c b p s w1 := by
 refine ⟨(hb.block g h0.lt).trans h.blk, ⟨h.rd.1, fun j x hj => ?_⟩, h.far, h.ok⟩
 obtain ⟨ad, hA, k0, k1, k2⟩ := h.rd.2 j x hj
 obtain ⟨ad', hA', j0, _, _⟩ := h0.rd.2 j x (by rw [← hpp]; exact hj)
 rw [hA] at hA'
 injection hA' with e0
 subst e0
 have hl := cell_lt j0
 exact ⟨ad, hA, (hb.cell hl).trans k0, (hb.cell (p := ⟨(ad.add (j * 3)).block, (ad.add (j * 3)).off + 1, none⟩) hl).trans k1, (hb.cell (p := ⟨(ad.add (j * 3)).block, (ad.add (j * 3)).off + 2, none⟩) hl).trans k2⟩
theorem OutF.ret {g : Nat} {A : Option Addr} {c : Nat} {b : Bool} {p s p' : List TokT} {q : FS} {w w3 w5 : World} {t : Tm} {v : Value} (h0 : Rf g A c b p s w) (hP : Past g w w3) (hb : Below w.heap.size w3 w5) (hpp : p' ++ q.2 = p ++ s) (hr : Rf g A c q.1 p' q.2 w3) (hT : TmF w.heap.size w5 (toR t) v) : OutF g A c p s w t q (.returned v) w5 :=
 ⟨hP.belowN hb, v, p', rfl, hT, hpp, h0.old hpp hr hb⟩
abbrev cellsF (x : RTm) (A : Option Addr) (c : Nat) : Array Value := #[.int .i64 x.f0, .string x.f1, .int .i64 x.f2, .slice A x.f3.length c]
theorem rf_all (k : Nat) (HO : RFH 91 .one k) (HA : RFH 55 .all k) : RFH 55 .all (k + 1) := by
 rintro g A c p ⟨b, s⟩ w tr q' h hrun
 have h0 := Rf.below h (zqb (Below.refl _ _) (.cells zeroF 32))
 have hlt := h.lt
 have hne : w.heap.size ≠ g := by omega
 have HH := Lib.hid h
 have B2 := Own.new w zeroF 32
 have P0 : Past g w (w.alloc (.cells zeroF 32)) := Past.of_below (zqb (Below.refl _ _) _)
 obtain ⟨t, ⟨b1, s1⟩, hr, he⟩ := fthen_some hrun
 have KP := Lib.hid (HO.out h0 hr)
 have HE := Lib.hid he
 clear hr h0 h hrun he
 go_enter Tryz.func55, Tryz.ntmps55
 go_wp2_with fail
 refine KP.out.mono ?_
 rintro e w1 ⟨x, A3, c3, p', hx, rfl, hp, hv, hpp, hrd⟩
 have HX := Lib.hid hx
 clear hx KP
 have hN1 : w.heap.size < w1.heap.size := by have := hp.size; simp at this; omega
 have hne1 : w1.heap.size ≠ g := by omega
 have hnn : w.heap.size ≠ w1.heap.size := by omega
 have P1w := P0.trans hp
 have B2w := B2.past hp hne
 have hvw := hv
 have hrw : Rf g A c b1 p' s1 w1 := hrd
 have P1 := (P0.trans hp).alloc (.cells (cellsF x A3 c3) 32)
 have B2 := (B2.past hp hne).alloc (.cells (cellsF x A3 c3) 32)
 have B3 := Own.new w1 (cellsF x A3 c3) 32
 have hv := hv.same ((Same.refl _ _).alloc (.cells (cellsF x A3 c3) 32))
 have hrd : Rf g A c b1 p' s1 _ := Rf.below hrd (zqb (Below.refl _ _) (.cells (cellsF x A3 c3) 32))
 have HPP := Lib.hid (show p' ++ s1 = p ++ s from hpp)
 clear hp hpp P0
 simp only [World.size_alloc] at hv hvw
 have hc2 := hrd.c2
 cases b1 with
 | true =>
  have d0 := B2w.cell 0
  have d1 := B2w.cell 1
  have d2 := B2w.cell 2
  have d3 := B2w.cell 3
  have dz := fun i => B2w.fz i
  go_wp2_with fail
  refine ret4F rfl rfl ((Own.four B2w).alloc _) ?_
  have e1 := HE.out
  rw [if_neg (by simp)] at e1
  injection e1 with e1
  injection e1 with e1 e2
  subst e1 e2
  exact OutF.ret HH.out P1w ((zqu (w3size := 0) (Below.refl _ _)).alloc (by simp [World.setCell]; omega) _) HPP.out hrw (HX.out ▸ (hvw.same ((zqv (Same.refl _ _) (by omega)).alloc _)).mono (by omega))
 | false =>
  have K := Lib.hid (rfTake mSeq g A c false p' s1 _ hrd)
  cases hq : isL s1 mSeq with
  | false =>
   rw [hq] at K
   have e1 := HE.out
   rw [if_neg (by simp [hq])] at e1
   have HE2 := Lib.hid e1
   clear hq hrd e1 HE
   go_wp2_with fail
   refine K.out.mono ?_
   rintro e w2 ⟨rfl, hp, hrd, -⟩
   have hrd := hrd (by first | rfl | trivial)
   have P2 := P1.trans hp
   have B2 := B2.past hp hne
   have B3 := B3.past hp hne1
   have hv := hv.same (Same.of_past hp (by omega))
   have d0 := B2.cell 0
   have d1 := B2.cell 1
   have d2 := B2.cell 2
   have d3 := B2.cell 3
   have dz := fun i => B2.fz i
   have q0 := B3.cell 0
   have q1 := B3.cell 1
   have q2 := B3.cell 2
   have q3 := B3.cell 3
   clear hp hc2
   go_wp2_with fail
   refine ret4F rfl rfl (Own.four B2) ?_
   have e1 := HE2.out
   injection e1 with e1
   injection e1 with e1 e2
   subst e1 e2
   exact OutF.ret HH.out P2 (zqu (w3size := 0) (Below.refl _ _)) HPP.out hrd (HX.out ▸ (hv.same (zqv (Same.refl _ _) (by omega))).mono (by omega))
  | true =>
   rw [hq] at K
   have e1 := HE.out
   rw [if_pos ⟨rfl, hq⟩] at e1
   obtain ⟨u, ⟨b2, s2⟩, hr, he2⟩ := fthen_some e1
   have HR := Lib.hid hr
   have HE2 := Lib.hid he2
   clear hq hrd e1 hr he2 HE
   go_wp2_with fail
   refine K.out.mono ?_
   rintro e w2 ⟨rfl, hp, -, hrd⟩
   obtain ⟨y, r, hs, hrd⟩ := hrd (by first | rfl | trivial)
   have P2 := P1.trans hp
   have B2 := B2.past hp hne
   have B3 := B3.past hp hne1
   have hN2 : w1.heap.size < w2.heap.size := by have := hp.size; simp at this; omega
   have hv := hv.same (Same.of_past hp (by omega))
   have q0 := B3.cell 0
   have q1 := B3.cell 1
   have q2 := B3.cell 2
   have q3 := B3.cell 3
   have HS := Lib.hid hs
   have hRR := HR.out
   rw [hs] at hRR
   have KP := Lib.hid (HA.out (Rf.below hrd (zqx (Below.refl _ _))) hRR)
   have B2d : Own w2.drew w.heap.size zeroF 32 := B2
   have B3d : Own w2.drew w1.heap.size (cellsF x A3 c3) 32 := B3
   have P2d := P2.drew
   have hvd := hv.same ((Same.refl _ _).drew)
   clear hp hs hRR hc2
   go_wp2_with fail
   go_region_held3 (fun w' => w'.cell? ⟨w1.heap.size, 0, none⟩ = some (.int .i64 x.f0) ∧ w'.cell? ⟨w1.heap.size, 1, none⟩ = some (.string x.f1) ∧ w'.cell? ⟨w1.heap.size, 2, none⟩ = some (.int .i64 x.f2) ∧ w'.cell? ⟨w1.heap.size, 3, none⟩ = some (.slice A3 x.f3.length c3)) (go_keep)
    ((first
     | (go_at_call 55; refine KP.out.mono ?_; rintro e w3 ⟨z, A4, c4, p2, hz, rfl, hp, hv2, hpp, hrd2⟩; have HZ := Lib.hid hz; clear hz; have B2e := B2d.past hp hne; have q0 := (B3d.past hp hne1).cell 0; have q1 := (B3d.past hp hne1).cell 1; have q2 := (B3d.past hp hne1).cell 2; have q3 := (B3d.past hp hne1).cell 3; have B2f := B2e.alloc (.cells #[.int .i64 x.f0, .string x.f1, .int .i64 x.f2, .slice A3 x.f3.length c3, .int .i64 z.f0, .string z.f1, .int .i64 z.f2, .slice A4 z.f3.length c4] 32); have B3f : Own _ _ (cellsF x A3 c3) _ := (B3d.past hp hne1).alloc (.cells #[.int .i64 x.f0, .string x.f1, .int .i64 x.f2, .slice A3 x.f3.length c3, .int .i64 z.f0, .string z.f1, .int .i64 z.f2, .slice A4 z.f3.length c4] 32); have D2f := Own.new w3 #[.int .i64 x.f0, .string x.f1, .int .i64 x.f2, .slice A3 x.f3.length c3, .int .i64 z.f0, .string z.f1, .int .i64 z.f2, .slice A4 z.f3.length c4] 32)
     | (go_at_call 93; refine (rfNode 13 ⟨#[]⟩ (some ⟨w3.heap.size, 0, none⟩) 2 2 _).mono ?_; rintro e w4 ⟨rfl, hb⟩; have B2g : Own w4 w.heap.size zeroF 32 := zqn B2f hb; have D2g := zqn D2f hb; have B3g : Own w4 w1.heap.size (cellsF x A3 c3) 32 := zqn B3f hb; have q0 := B3g.cell 0; have q1 := B3g.cell 1; have q2 := B3g.cell 2; have q3 := B3g.cell 3; have d0 := B2g.cell 0; have d1 := B2g.cell 1; have d2 := B2g.cell 2; have d3 := B2g.cell 3; have dz := fun i => B2g.fz i)))
   go_wp2_with fail
   refine ret4F rfl rfl (Own.four B2g) ?_
   have hN3 : w2.heap.size ≤ w3.heap.size := hp.size
   have hN4 : w3.heap.size < w4.heap.size := by have := hb.size; simp at this; omega
   have e1 := HE2.out
   injection e1 with e1
   injection e1 with e1 e2
   subst e1 e2
   refine OutF.ret HH.out (P2d.trans hp) (zqu (w3size := 0) ((zqz (by omega) _).trans (hb.mono (by simp; omega)))) (by rw [← HPP.out, HS.out]; simpa using hpp) hrd2 ?_
   show TmF _ _ (tmR 13 noName [toR t, toR u]) _
   rw [← HX.out, ← HZ.out]
   exact (TmF.kids2 13 noName (hvd.same ((((Same.of_past hp (by omega)).alloc _).trans (Same.of_below hb)).trans (zqv (Same.refl _ _) (by omega)))) ((hv2.mono (by show w.heap.size + 1 ≤ w2.heap.size; omega)).same ((((Same.refl _ _).alloc _).trans (Same.of_below hb)).trans (zqv (Same.refl _ _) (by omega)))) (zqF D2g (by omega)) (by omega)).mono (by omega)
end Go.Proofs.YtchekgnacodolaaGreatDoor.X
end
section
namespace Go.Proofs.YtchekgnacodolaaGreatDoor.X
open Go.RowKit Go.Proofs.YtchekgnacodolaaGreatDoorW.PrintWords Go.Proofs.YtchekgnacodolaaGreatDoorW.PrintLast Go.Proofs.YtchekgnacodolaaGreatDoorW.PrintMore
set_option linter.unusedSimpArgs false
set_option linter.unusedVariables false
theorem rf_part (k : Nat) (HP : RFH 199 .part k) (HA : RFH 55 .all k) : RFH 199 .part (k + 1) := by
 rintro g A c p ⟨b, s⟩ w tr q' h hrun
 have h0 := Rf.below h (zqb (Below.refl _ _) (.cells zeroF 32))
 have hlt := h.lt
 have hne : w.heap.size ≠ g := by omega
 have HH := Lib.hid h
 have B2 := Own.new w zeroF 32
 have P0 : Past g w (w.alloc (.cells zeroF 32)) := Past.of_below (zqb (Below.refl _ _) _)
 have HE := Lib.hid hrun
 have hc2 := h.c2
 have hf2 := h.fz 2
 clear h hrun
 cases b with
 | true =>
  go_enter Tryz.func199, Tryz.ntmps199
  go_wp2_with fail
  have hsz : (w.setCell ⟨g, 2, none⟩ (.bool true)).heap.size = w.heap.size := by simp [World.setCell]
  have hown : Own ((w.setCell ⟨g, 2, none⟩ (.bool true)).alloc (.cells zeroF 32)) w.heap.size zeroF 32 := by
   have := blk_new (w.setCell ⟨g, 2, none⟩ (.bool true)) (.cells zeroF 32)
   rw [hsz] at this
   exact this
  refine ret4F rfl rfl hown ?_
  have e1 : frun (k + 1) .part (true, s) = some (zTm, (true, s)) := by show (if _ then _ else _) = _; rw [if_pos (.inl rfl)]
  have e2 := HE.out
  rw [e1] at e2
  injection e2 with e2
  injection e2 with e2 e3
  subst e2 e3
  exact OutF.ret HH.out ((Past.refl g w).set 2 _) (zqz (by omega) _) rfl HH.out.bad (TmF.leaf _ _ 0 ⟨#[]⟩ 0)
 | false =>
  have KB := Lib.hid (rfBegins g A c false p s _ h0)
  cases hq : beginsL s with
  | false =>
   rw [hq] at KB
   go_enter Tryz.func199, Tryz.ntmps199
   go_wp2_with fail
   refine KB.out.mono ?_
   rintro e w1 ⟨rfl, n, hn⟩
   have h1 : Rf g A c false p s w1 := by rw [hn]; exact Rf.drewN h0 n
   have B2 : Own w1 w.heap.size zeroF 32 := by rw [hn]; exact B2
   have P1 : Past g w w1 := by rw [hn]; exact P0.drewN n
   clear hn KB
   have c2 := h1.c2
   have f2 := h1.fz 2
   have hlt1 := h1.lt
   have d0 := B2.cell 0
   have d1 := B2.cell 1
   have d2 := B2.cell 2
   have d3 := B2.cell 3
   have dz := fun i => B2.fz i
   go_wp2_with fail
   refine ret4F rfl rfl (Own.four (show Own (w1.setCell ⟨g, 2, none⟩ (.bool true)) w.heap.size zeroF 32 from B2.past ((Past.refl g w1).set 2 _) hne)) ?_
   have e1 : frun (k + 1) .part (false, s) = some (zTm, (true, s)) := by show (if _ then _ else _) = _; rw [if_pos (.inr hq)]
   have e2 := HE.out
   rw [e1] at e2
   injection e2 with e2
   injection e2 with e2 e3
   subst e2 e3
   exact OutF.ret HH.out (P1.set 2 _) (zqu (w3size := 0) (Below.refl _ _)) rfl h1.bad (TmF.leaf _ _ 0 ⟨#[]⟩ 0)
  | true =>
   rw [hq] at KB
   have e1 : frun (k + 1) .part (false, s) = if isL s mGet = true then (frun k .part (false, s.tail)).then_ fun t q => some (tm 10 noName [t], q)
      else if isL s mOpen = true then (frun k .all (false, s.tail)).then_ fun t q => some (t, fMust mClose q)
      else if (peekL s).f0 = 1 then some (tm 2 (peekL s).f1 [], (false, s.tail))
      else some (⟨1, noName, (peekL s).f2, []⟩, (false, s.tail)) := by
    show (if _ then _ else _) = _
    rw [if_neg (by simp [hq])]
   have e2 := HE.out
   rw [e1] at e2
   have HE2 := Lib.hid e2
   clear e1 e2 HE
   have KT : Hid (∀ w1, Rf g A c false p s w1 → _) := Lib.hid (fun w1 (h : Rf g A c false p s w1) => rfTake mGet g A c false p s w1 h)
   have KT2 : Hid (∀ w1, Rf g A c false p s w1 → _) := Lib.hid (fun w1 (h : Rf g A c false p s w1) => rfTake mOpen g A c false p s w1 h)
   cases hm : isL s mGet with
   | true =>
    rw [hm] at KT
    have e2 := HE2.out
    rw [if_pos hm] at e2
    obtain ⟨u, ⟨b2, s2⟩, hr, he2⟩ := fthen_some e2
    have HR := Lib.hid hr
    have HE3 := Lib.hid he2
    clear hq hm e2 hr he2 HE2 KT2
    go_enter Tryz.func199, Tryz.ntmps199
    go_wp2_with fail
    refine KB.out.mono ?_
    rintro e w1 ⟨rfl, n, hn⟩
    have h1 : Rf g A c false p s w1 := by rw [hn]; exact Rf.drewN h0 n
    have B2 : Own w1 w.heap.size zeroF 32 := by rw [hn]; exact B2
    have P1 : Past g w w1 := by rw [hn]; exact P0.drewN n
    have hN1 : w.heap.size < w1.heap.size := B2.lt
    clear hn KB
    have KT := Lib.hid (KT.out w1 h1)
    clear h1
    go_wp2_with fail
    refine KT.out.mono ?_
    rintro e w2 ⟨rfl, hp, -, hrd⟩
    obtain ⟨y, r, hs, hrd⟩ := hrd (by first | rfl | trivial)
    have P2 := P1.trans hp
    have B2 := B2.past hp hne
    have hN2 : w1.heap.size ≤ w2.heap.size := hp.size
    have hRR := HR.out
    rw [hs] at hRR
    have HS := Lib.hid hs
    have KP := Lib.hid (HP.out hrd hRR)
    clear hp hs hRR hrd
    go_wp2_with fail
    refine KP.out.mono ?_
    rintro e w3 ⟨z, A4, c4, p2, hz, rfl, hp, hv2, hpp, hrd2⟩
    have HZ := Lib.hid hz
    have hN3 : w2.heap.size ≤ w3.heap.size := hp.size
    have P3 := P2.trans hp
    have B2f := (B2.past hp hne).alloc (.cells (cellsF z A4 c4) 32)
    have D2f := Own.new w3 (cellsF z A4 c4) 32
    clear hz hp
    have KN := Lib.hid (rfNode 10 ⟨#[]⟩ (some ⟨w3.heap.size, 0, none⟩) 1 1 (w3.alloc (.cells (cellsF z A4 c4) 32)))
    go_wp2_with fail
    refine KN.out.mono ?_
    rintro e w4 ⟨rfl, hb⟩
    have B2g : Own w4 w.heap.size zeroF 32 := zqn B2f hb
    have D2g : Own w4 w3.heap.size (cellsF z A4 c4) 32 := zqn D2f hb
    have HB := Lib.hid hb
    have hN4 : w3.heap.size < w4.heap.size := by have := hb.size; simp at this; omega
    have d0 := B2g.cell 0
    have d1 := B2g.cell 1
    have d2 := B2g.cell 2
    have d3 := B2g.cell 3
    have dz := fun i => B2g.fz i
    clear hb
    go_wp2_with fail
    refine ret4F rfl rfl (Own.four B2g) ?_
    have e1 := HE3.out
    injection e1 with e1
    injection e1 with e1 e2
    subst e1 e2
    refine OutF.ret HH.out P3 (zqu (w3size := 0) ((zqz (by omega) _).trans (HB.out.mono (by simp; omega)))) (by rw [HS.out]; simpa using hpp) hrd2 ?_
    show TmF _ _ (tmR 10 noName [toR u]) _
    rw [← HZ.out]
    exact (TmF.kids1 10 noName (hv2.same ((((Same.refl _ _).alloc _).trans (Same.of_below HB.out)).trans (zqv (Same.refl _ _) (by omega)))) (zqF D2g (by omega)) (by omega)).mono (by omega)
   | false =>
    rw [hm] at KT
    have e2 := HE2.out
    rw [if_neg (by simp [hm])] at e2
    cases hm2 : isL s mOpen with
    | true =>
     rw [hm2] at KT2
     rw [if_pos hm2] at e2
     obtain ⟨u, ⟨b2, s2⟩, hr, he2⟩ := fthen_some e2
     have HR := Lib.hid hr
     have HE3 := Lib.hid he2
     clear hq hm hm2 e2 hr he2 HE2
     go_enter Tryz.func199, Tryz.ntmps199
     go_wp2_with fail
     refine KB.out.mono ?_
     rintro e w1 ⟨rfl, n, hn⟩
     have h1 : Rf g A c false p s w1 := by rw [hn]; exact Rf.drewN h0 n
     have B2 : Own w1 w.heap.size zeroF 32 := by rw [hn]; exact B2
     have P1 : Past g w w1 := by rw [hn]; exact P0.drewN n
     have hN1 : w.heap.size < w1.heap.size := B2.lt
     clear hn KB
     have KT := Lib.hid (KT.out w1 h1)
     clear h1
     go_wp2_with fail
     refine KT.out.mono ?_
     rintro e w2 ⟨rfl, hp, hrd, -⟩
     have hrd := hrd (by first | rfl | trivial)
     have P2 := P1.trans hp
     have B2 := B2.past hp hne
     have hN2 : w1.heap.size ≤ w2.heap.size := hp.size
     have KT2 := Lib.hid (KT2.out w2 hrd)
     clear hp hrd KT
     go_wp2_with fail
     refine KT2.out.mono ?_
     rintro e w3 ⟨rfl, hp, -, hrd⟩
     obtain ⟨y, r, hs, hrd⟩ := hrd (by first | rfl | trivial)
     have P3 := P2.trans hp
     have B2 := B2.past hp hne
     have hN3 : w2.heap.size ≤ w3.heap.size := hp.size
     have hRR := HR.out
     rw [hs] at hRR
     have HS := Lib.hid hs
     have KP := Lib.hid (HA.out hrd hRR)
     clear hp hs hRR hrd KT2
     go_wp2_with fail
     refine KP.out.mono ?_
     rintro e w4 ⟨z, A4, c4, p2, hz, rfl, hp, hv2, hpp, hrd2⟩
     have HZ := Lib.hid hz
     have hN4 : w3.heap.size ≤ w4.heap.size := hp.size
     have hne4 : w4.heap.size ≠ g := by omega
     have P4 := (P3.trans hp).alloc (.cells (cellsF z A4 c4) 32)
     have B2f := (B2.past hp hne).alloc (.cells (cellsF z A4 c4) 32)
     have D2f := Own.new w4 (cellsF z A4 c4) 32
     have hv2 := (hv2.mono (show w.heap.size + 1 ≤ w3.heap.size by omega)).same ((Same.refl _ _).alloc (.cells (cellsF z A4 c4) 32))
     have HPP := Lib.hid hpp
     have KM := Lib.hid (rfMust mClose g A c b2 p2 s2 _ (Rf.below hrd2 (zqb (Below.refl _ _) (.cells (cellsF z A4 c4) 32))))
     clear hz hp hrd2 hpp KP
     go_wp2_with fail
     refine KM.out.mono ?_
     rintro e w5 ⟨rfl, hp, hr1, hr2⟩
     have P5 := P4.trans hp
     have B2 := B2f.past hp hne
     have D2 := D2f.past hp hne4
     have hv2 := hv2.same (Same.of_past hp (by omega))
     have d0 := B2.cell 0
     have d1 := B2.cell 1
     have d2 := B2.cell 2
     have d3 := B2.cell 3
     have dz := fun i => B2.fz i
     have q0 := D2.cell 0
     have q1 := D2.cell 1
     have q2 := D2.cell 2
     have q3 := D2.cell 3
     clear hp KM
     have H1 := Lib.hid hr1
     have H2 := Lib.hid hr2
     clear hr1 hr2
     go_wp2_with fail
     refine ret4F rfl rfl (Own.four B2) ?_
     have e1 := HE3.out
     injection e1 with e1
     injection e1 with e1 e2
     subst e1
     have hT : TmF w.heap.size ((((w5.setCell ⟨w.heap.size, 0, none⟩ (.int .i64 z.f0)).setCell ⟨w.heap.size, 1, none⟩ (.string z.f1)).setCell ⟨w.heap.size, 2, none⟩ (.int .i64 z.f2)).setCell ⟨w.heap.size, 3, none⟩ (.slice A4 z.f3.length c4)) (toR u) (.agg (cellsF z A4 c4)) := by
      rw [← HZ.out]; exact (hv2.same (zqv (Same.refl _ _) (by omega))).mono (by omega)
     cases hc : isL s2 mClose with
     | true =>
      obtain ⟨y2, r2, rfl, hr2⟩ := H2.out hc
      have e3 : fMust mClose (b2, y2 :: r2) = (b2, r2) := by unfold fMust; rw [if_pos (by exact hc)]; rfl
      rw [e3] at e2
      subst e2
      refine OutF.ret HH.out P5 (zqu (w3size := 0) (Below.refl _ _)) ?_ hr2 hT
      have := HPP.out
      rw [HS.out]
      simpa using this
     | false =>
      have hr1 := H1.out hc
      have e3 : fMust mClose (b2, s2) = (true, s2) := by unfold fMust; rw [if_neg (by simp [hc])]
      rw [e3] at e2
      subst e2
      refine OutF.ret HH.out P5 (zqu (w3size := 0) (Below.refl _ _)) ?_ hr1 hT
      have := HPP.out
      rw [HS.out]
      simpa using this
    | false =>
     rw [hm2] at KT2
     rw [if_neg (by simp [hm2])] at e2
     obtain ⟨x, r, rfl⟩ : ∃ x r, s = x :: r := by
      cases s with
      | nil => rw [beginsL_nil] at hq; cases hq
      | cons x r => exact ⟨x, r, rfl⟩
     have HE3 : Hid ((if x.f0 = 1 then some (tm 2 x.f1 [], (false, r)) else some (⟨1, noName, x.f2, []⟩, (false, r))) = some (tr, q')) := Lib.hid e2
     clear hq hm hm2 e2 HE2
     go_enter Tryz.func199, Tryz.ntmps199
     go_wp2_with fail
     refine KB.out.mono ?_
     rintro e w1 ⟨rfl, n, hn⟩
     have h1 : Rf g A c false p (x :: r) w1 := by rw [hn]; exact Rf.drewN h0 n
     have B2 : Own w1 w.heap.size zeroF 32 := by rw [hn]; exact B2
     have P1 : Past g w w1 := by rw [hn]; exact P0.drewN n
     have hN1 : w.heap.size < w1.heap.size := B2.lt
     clear hn KB
     have KT := Lib.hid (KT.out w1 h1)
     clear h1 hc2 hf2
     go_wp2_with fail
     refine KT.out.mono ?_
     rintro e w2 ⟨rfl, hp, hrd, -⟩
     have hrd := hrd (by first | rfl | trivial)
     have P2 := P1.trans hp
     have B2 := B2.past hp hne
     have hN2 : w1.heap.size ≤ w2.heap.size := hp.size
     have KT2 := Lib.hid (KT2.out w2 hrd)
     clear hp hrd KT
     go_wp2_with fail
     refine KT2.out.mono ?_
     rintro e w3 ⟨rfl, hp, hrd, -⟩
     have hrd := hrd (by first | rfl | trivial)
     have P3 := P2.trans hp
     have B2 := B2.past hp hne
     have hN3 : w2.heap.size ≤ w3.heap.size := hp.size
     clear hp KT2 h0
     have h0 := hrd.c0
     have h1 := hrd.c1
     have f1 := hrd.fz 1
     have hl3 := hrd.lt
     have hlen := hrd.len
     obtain ⟨ad, rfl, k0, k1, k2⟩ := hrd.get
     have p1 : (0 ≤ (p.length : Int)) = True := eq_true (by omega)
     have p2 : ((p.length : Int) < ((p ++ x :: r).length : Int)) = True := eq_true (by simp; omega)
     have hpl : (p.length : Int) + 1 ≤ 9223372036854775807 := by simp at hlen; omega
     have HR3 := Lib.hid hrd
     have n0 := World.new_ne w3 _ h0
     have n1 := World.new_ne w3 _ h1
     have n2 := World.new_ne w3 _ k0
     have n3 := World.new_ne w3 _ k1
     have n4 := World.new_ne w3 _ k2
     have n5 : w.heap.size ≠ w3.heap.size := by omega
     have n6 : w3.heap.size ≠ g := by omega
     clear hrd hlen
     generalize hn : (p ++ x :: r).length = n at *
     generalize hi : p.length = i at *
     have HN := Lib.hid hn
     have HI := Lib.hid hi
     clear hn hi
     go_wp2_with fail
     go_region_held3 (fun w' => w'.cell? ⟨g, 0, none⟩ = some (.slice (some ad) n c) ∧ w'.cell? ⟨g, 1, none⟩ = some (.int .i64 (i : Int)) ∧ w'.cell? (ad.add (i * 3)) = some (.int .i64 x.f0) ∧ w'.cell? ⟨(ad.add (i * 3)).block, (ad.add (i * 3)).off + 1, none⟩ = some (.string x.f1) ∧ w'.cell? ⟨(ad.add (i * 3)).block, (ad.add (i * 3)).off + 2, none⟩ = some (.int .i64 x.f2)) (go_keep) (fail)
     generalize hW : (w3.alloc (.cells #[.int .i64 x.f0, .string x.f1, .int .i64 x.f2] 107)).drew = W
     have DW : Own W w3.heap.size #[.int .i64 x.f0, .string x.f1, .int .i64 x.f2] 107 := by rw [← hW]; exact zqi (blk_new _ _)
     have BW : Own W w.heap.size zeroF 32 := by rw [← hW]; exact zqi (zqe B2 _)
     have RW : Rf g (some ad) c false p (x :: r) W := by rw [← hW]; exact Rf.below HR3.out (zqx (zqb (Below.refl _ _) _))
     have PW : Past g w W := by rw [← hW]; exact (P3.alloc _).drew
     have hNW : w3.heap.size < W.heap.size := DW.lt
     clear n0 n1 n2 n3 n4 h0 h1 k0 k1 k2 B2 P3 HR3 hW f1
     have h1 := RW.c1
     have f1 := RW.fz 1
     rw [HI.out] at h1
     have HRW := Lib.hid RW
     have t0 := DW.cell 0
     have t1 := DW.cell 1
     have t2 := DW.cell 2
     have hlW := RW.lt
     clear RW
     by_cases hx : x.f0 = 1
     ·have hx1 : (x.f0 == 1) = true := by rw [hx]; rfl
      have e1 := HE3.out
      rw [if_pos hx] at e1
      have HE4 := Lib.hid e1
      clear hx e1 HE3
      go_wp2_with fail
      refine (rfNode 2 x.f1 none 0 0 _).mono ?_
      rintro e w4 ⟨rfl, hb⟩
      have hs3 : (W.setCell ⟨g, 1, none⟩ (.int .i64 ((i : Int) + 1))).heap.size = W.heap.size := by simp [World.setCell]
      have B2g : Own w4 w.heap.size zeroF 32 := zqn (show Own (W.setCell ⟨g, 1, none⟩ (.int .i64 ((i : Int) + 1))) _ _ _ from BW.past ((Past.refl g W).set 1 _) hne) hb
      have d0 := B2g.cell 0
      have d1 := B2g.cell 1
      have d2 := B2g.cell 2
      have d3 := B2g.cell 3
      have dz := fun i => B2g.fz i
      have HB := Lib.hid (show Below w.heap.size (W.setCell ⟨g, 1, none⟩ (.int .i64 ((i : Int) + 1))) w4 from hb.mono (by omega))
      clear hb
      go_wp2_with fail
      refine ret4F rfl rfl (Own.four B2g) ?_
      have hi := HI.out
      subst hi
      have e1 := HE4.out
      injection e1 with e1
      injection e1 with e1 e2
      subst e1 e2
      exact OutF.ret HH.out (PW.set 1 _) (zqu (w3size := 0) HB.out) (by simp) HRW.out.step (TmF.leaf _ _ 2 x.f1 0)
     ·have hx1 : (x.f0 == 1) = false := by simpa using hx
      have e1 := HE3.out
      rw [if_neg hx] at e1
      have HE4 := Lib.hid e1
      have d0 := BW.cell 0
      have d1 := BW.cell 1
      have d2 := BW.cell 2
      have d3 := BW.cell 3
      have dz := fun i => BW.fz i
      clear hx e1 HE3
      go_wp2_with fail
      refine ret4F rfl rfl (Own.four (show Own (W.setCell ⟨g, 1, none⟩ (.int .i64 ((i : Int) + 1))) _ _ _ from BW.past ((Past.refl g W).set 1 _) hne)) ?_
      have hi := HI.out
      subst hi
      have e1 := HE4.out
      injection e1 with e1
      injection e1 with e1 e2
      subst e1 e2
      exact OutF.ret HH.out (PW.set 1 _) (zqu (w3size := 0) (Below.refl _ _)) (by simp) HRW.out.step (TmF.leaf _ _ 1 ⟨#[]⟩ x.f2)
end Go.Proofs.YtchekgnacodolaaGreatDoor.X
end

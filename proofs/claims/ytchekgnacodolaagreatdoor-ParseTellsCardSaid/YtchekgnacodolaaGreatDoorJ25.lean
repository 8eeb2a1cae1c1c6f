-- Joined by our own program (wip/tools/prune.py) out of the seat's texts, less what this claim doesn't name.
import Derived.Test.YtchekgnacodolaaGreatDoorJ23
import Derived.Test.YtchekgnacodolaaGreatDoorJ24
set_option maxHeartbeats 16000000
set_option maxRecDepth 100000
section
namespace Go.Proofs.YtchekgnacodolaaGreatDoor.X
open Go.RowKit Go.Proofs.YtchekgnacodolaaGreatDoorW.PrintWords Go.Proofs.YtchekgnacodolaaGreatDoorW.PrintLast Go.Proofs.YtchekgnacodolaaGreatDoorW.PrintMore
set_option linter.unusedSimpArgs false
set_option linter.unusedVariables false
def TmXF (ok : Nat → Prop) (w : World) (t : RTm) (v : Value) : Prop := ∃ A c, v = .agg #[.int .i64 t.f0, .string t.f1, .int .i64 t.f2, .slice A t.f3.length c] ∧ t.f3.length ≤ c ∧ ∀ w2, SameX ok w w2 → Kd.C k32 w2 A t.f3.length t.f3
theorem TmXF.same {ok : Nat → Prop} {w w1 : World} {t : RTm} {v : Value} (h : TmXF ok w t v) (hp : SameX ok w w1) : TmXF ok w1 t v := by
 obtain ⟨A, c, rfl, hl, hC⟩ := h
 exact ⟨A, c, rfl, hl, fun w2 h2 => hC w2 (hp.trans h2)⟩
theorem TmF.toX {base : Nat} {ok : Nat → Prop} {w : World} {t : RTm} {v : Value} (h : TmF base w t v) (hok : ∀ b, base ≤ b → b < w.heap.size → ok b) : TmXF ok w t v := by
 obtain ⟨A, c, rfl, hl, hC⟩ := h
 exact ⟨A, c, rfl, hl, fun w2 h2 => hC w2 ⟨h2.size, fun b hb hlt => h2.block b (hok b hb hlt) hlt⟩⟩
theorem TmXF.toV {base : Nat} {ok : Nat → Prop} {w : World} {t : RTm} {v : Value} (h : TmXF ok w t v) (hok : ∀ b, ok b → base ≤ b) : TmF base w t v := by
 obtain ⟨A, c, rfl, hl, hC⟩ := h
 exact ⟨A, c, rfl, hl, fun w2 h2 => hC w2 ⟨h2.size, fun b hb hlt => h2.block b (hok b hb) hlt⟩⟩
theorem TmXF.kids2 {ok : Nat → Prop} {b : Nat} {w : World} {a a' : RTm} {A A' : Option Addr} {c c' : Nat} {fr : Nat × Nat} (k : Int) (nm : ByteArray) (h0 : TmXF ok w a (.agg #[.int .i64 a.f0, .string a.f1, .int .i64 a.f2, .slice A a.f3.length c])) (h1 : TmXF ok w a' (.agg #[.int .i64 a'.f0, .string a'.f1, .int .i64 a'.f2, .slice A' a'.f3.length c']))
  (hb : w.heap[b]? = some (.cells #[.int .i64 a.f0, .string a.f1, .int .i64 a.f2, .slice A a.f3.length c, .int .i64 a'.f0, .string a'.f1, .int .i64 a'.f2, .slice A' a'.f3.length c'] 32 fr)) (hg : ok b) :
  TmXF ok w (tmR k nm [a, a']) (.agg #[.int .i64 k, .string nm, .int .i64 0, .slice (some ⟨b, 0, none⟩) 2 2]) := by
 obtain ⟨_, _, e0, hl0, hC0⟩ := h0
 obtain ⟨_, _, e1, hl1, hC1⟩ := h1
 simp only [Value.agg.injEq, Array.mk.injEq, List.cons.injEq, Value.slice.injEq, true_and, and_true] at e0 e1
 obtain ⟨rfl, rfl⟩ := e0
 obtain ⟨rfl, rfl⟩ := e1
 exact ⟨_, 2, rfl, Nat.le_refl _, fun w2 hp => C_litF ((hp.block b hg (blk_lt hb)).trans hb) (Reps.c4 (k32_mk w2 a hl0 (hC0 w2 hp)) (Reps.c4 (k32_mk w2 a' hl1 (hC1 w2 hp)) (Reps.none _ _))) (by show (2 : Nat) ≤ _; decide)⟩
structure AppF (g : Nat) (A : Option Addr) (c : Nat) (p s : List TokT) (w : World) (n1 : Nat) (tr : Tm) (q' : FS) (k gk : Nat) (wr : World) : Prop where
 le : gk ≤ k
 ex : ∃ t x A3 c3 p' q, x = toR t ∧ frun gk (.apps t) q = some (tr, q') ∧ p' ++ q.2 = p ++ s ∧ Rf g A c q.1 p' q.2 wr ∧ Past g w wr ∧ Own wr w.heap.size zeroF 32 ∧
  Own wr n1 (cellsF x A3 c3) 32 ∧ TmXF (fun b => w.heap.size < b ∧ b ≠ n1) wr x (.agg (cellsF x A3 c3))
theorem rf_parts (k : Nat) (HP : RFH 199 .part k) : RFH 181 .parts (k + 1) := by
 rintro g A c p ⟨b, s⟩ w tr q' h hrun
 have h0 := Rf.below h (zqb (Below.refl _ _) (.cells zeroF 32))
 have hlt := h.lt
 have hne : w.heap.size ≠ g := by omega
 have HH := Lib.hid h
 have B2 := Own.new w zeroF 32
 have P0 : Past g w (w.alloc (.cells zeroF 32)) := Past.of_below (zqb (Below.refl _ _) _)
 obtain ⟨t, q1, hr, he⟩ := fthen_some hrun
 have KP := Lib.hid (HP.out h0 hr)
 have HE := Lib.hid he
 clear hr h0 h hrun he
 go_enter Tryz.func181, Tryz.ntmps181
 go_wp2_with fail
 refine KP.out.mono ?_
 rintro e w1 ⟨x, A3, c3, p', hx, rfl, hp, hv, hpp, hrd⟩
 have hN1 : w.heap.size < w1.heap.size := by have := hp.size; simp at this; omega
 have hne1 : w1.heap.size ≠ g := by omega
 have hnn : w.heap.size ≠ w1.heap.size := by omega
 have H0 := Lib.hid (AppF.mk (g := g) (A := A) (c := c) (p := p) (s := s) (w := w) (n1 := w1.heap.size) (tr := tr) (q' := q') (k := k) (gk := k) (wr := w1.alloc (.cells (cellsF x A3 c3) 32))
  (Nat.le_refl _) ⟨t, x, A3, c3, p', q1, hx, HE.out, hpp, Rf.below hrd (zqb (Below.refl _ _) _), (P0.trans hp).alloc _, (B2.past hp hne).alloc _, Own.new w1 _ _, (hv.toX (ok := fun b => w.heap.size < b ∧ b ≠ w1.heap.size) (fun b h1 h2 => ⟨by simp at h1; omega, by omega⟩)).same (SameX.of_below (zqb (Below.refl _ _) _))⟩)
 clear hp hpp hrd hv KP HE hx
 go_wp2_with fail
 go_loopg [] k (fun gk wr => AppF g A c p s w w1.heap.size tr q' k gk wr)
 case atStart => exact H0.out
 case round =>
  obtain ⟨t, x, A3, c3, p', ⟨b2, s'⟩, hx, hrun, hpp, hrd, hP, hB2, hB3, hv⟩ := hrel.ex
  cases gk with
  | zero => cases hrun
  | succ gk =>
  have hgk := hrel.le
  have hw1 : w1.heap.size < wr.heap.size := hB3.lt
  have HPP := Lib.hid (show p' ++ s' = p ++ s from hpp)
  have HX := Lib.hid hx
  have HRUN := Lib.hid hrun
  have hrd : Rf g A c b2 p' s' wr := hrd
  clear hrel hpp H0 hx hrun
  have hc2 := hrd.c2
  cases b2 with
  | true =>
   have d0 := hB2.cell 0
   have d1 := hB2.cell 1
   have d2 := hB2.cell 2
   have d3 := hB2.cell 3
   have dz := fun i => hB2.fz i
   have q0 := hB3.cell 0
   have q1 := hB3.cell 1
   have q2 := hB3.cell 2
   have q3 := hB3.cell 3
   go_wp2_with fail
   refine ret4F rfl rfl (Own.four hB2) ?_
   have e0 : frun (gk + 1) (.apps t) (true, s') = some (t, (true, s')) := by show (if _ then _ else _) = _; rw [if_neg (by simp)]
   have e1 := HRUN.out
   rw [e0] at e1
   injection e1 with e1
   injection e1 with e1 e2
   subst e1 e2
   exact OutF.ret HH.out hP (zqu (w3size := 0) (Below.refl _ _)) HPP.out hrd (HX.out ▸ (hv.same (SameX.four fun b h => by omega)).toV fun b h => by omega)
  | false =>
   have K := Lib.hid (rfBegins g A c false p' s' wr hrd)
   cases hq : beginsL s' with
   | false =>
    rw [hq] at K
    have e0 : frun (gk + 1) (.apps t) (false, s') = some (t, (false, s')) := by show (if _ then _ else _) = _; rw [if_neg (by simp [hq])]
    have e1 := HRUN.out
    rw [e0] at e1
    have HE := Lib.hid e1
    clear hq e0 e1 HRUN
    go_wp2_with fail
    refine K.out.mono ?_
    rintro e w2 ⟨rfl, n, hn⟩
    have hb : Below wr.heap.size wr w2 := hn ▸ zqa (Below.refl _ _) _
    have hrd := Rf.below hrd hb
    have hP := hP.trans (Past.of_below hb)
    have hB2 := hB2.past (Past.of_below (g := g) hb) hne
    have hB3 := hB3.past (Past.of_below (g := g) hb) hne1
    have hv := hv.same (SameX.of_below hb)
    have d0 := hB2.cell 0
    have d1 := hB2.cell 1
    have d2 := hB2.cell 2
    have d3 := hB2.cell 3
    have dz := fun i => hB2.fz i
    have q0 := hB3.cell 0
    have q1 := hB3.cell 1
    have q2 := hB3.cell 2
    have q3 := hB3.cell 3
    clear hb hn hc2
    go_wp2_with fail
    refine ret4F rfl rfl (Own.four hB2) ?_
    have e1 := HE.out
    injection e1 with e1
    injection e1 with e1 e2
    subst e1 e2
    exact OutF.ret HH.out hP (zqu (w3size := 0) (Below.refl _ _)) HPP.out hrd (HX.out ▸ (hv.same (SameX.four fun b h => by omega)).toV fun b h => by omega)
   | true =>
    rw [hq] at K
    have e0 : frun (gk + 1) (.apps t) (false, s') = (frun gk .part (false, s')).then_ fun u q => frun gk (.apps (tm 4 noName [t, u])) q := by show (if _ then _ else _) = _; rw [if_pos ⟨rfl, hq⟩]
    have e1 := HRUN.out
    rw [e0] at e1
    obtain ⟨u, qq, hr, he⟩ := fthen_some e1
    have HR := Lib.hid (frun_le hr (show gk ≤ k by omega))
    have HE := Lib.hid he
    clear hq e0 e1 HRUN hr he
    go_wp2_with fail
    refine K.out.mono ?_
    rintro e w2 ⟨rfl, n, hn⟩
    have hb : Below wr.heap.size wr w2 := hn ▸ zqa (Below.refl _ _) _
    have hrd := Rf.below hrd hb
    have hP := (hP.trans (Past.of_below hb)).drew
    have hB2 := hB2.past (Past.of_below (g := g) hb) hne
    have hB3 := hB3.past (Past.of_below (g := g) hb) hne1
    have hv := (hv.same (SameX.of_below hb)).same (SameX.of_below (zqx (Below.refl _ _)))
    have hw2 : wr.heap.size ≤ w2.heap.size := hb.size
    have B2d : Own w2.drew w.heap.size zeroF 32 := hB2
    have B3d : Own w2.drew w1.heap.size (cellsF x A3 c3) 32 := hB3
    have q0 := hB3.cell 0
    have q1 := hB3.cell 1
    have q2 := hB3.cell 2
    have q3 := hB3.cell 3
    have KP := Lib.hid (HP.out (Rf.below hrd (zqx (Below.refl _ _))) HR.out)
    clear hb hB2 hB3 hn hc2
    go_wp2_with fail
    go_region_with ((first
     | (go_at_call 199; refine KP.out.mono ?_; rintro e w3 ⟨z, A4, c4, p2, hz, rfl, hp, hv2, hpp, hrd2⟩; have HZ := Lib.hid hz; clear hz; have B3e := B3d.past hp hne1; have q0 := B3e.cell 0; have q1 := B3e.cell 1; have q2 := B3e.cell 2; have q3 := B3e.cell 3; have B2f := (B2d.past hp hne).alloc (.cells #[.int .i64 x.f0, .string x.f1, .int .i64 x.f2, .slice A3 x.f3.length c3, .int .i64 z.f0, .string z.f1, .int .i64 z.f2, .slice A4 z.f3.length c4] 32); have B3f := B3e.alloc (.cells #[.int .i64 x.f0, .string x.f1, .int .i64 x.f2, .slice A3 x.f3.length c3, .int .i64 z.f0, .string z.f1, .int .i64 z.f2, .slice A4 z.f3.length c4] 32); have D2f := Own.new w3 #[.int .i64 x.f0, .string x.f1, .int .i64 x.f2, .slice A3 x.f3.length c3, .int .i64 z.f0, .string z.f1, .int .i64 z.f2, .slice A4 z.f3.length c4] 32)
     | (go_at_call 93; refine (rfNode 4 ⟨#[]⟩ (some ⟨w3.heap.size, 0, none⟩) 2 2 _).mono ?_; rintro e w4 ⟨rfl, hb⟩; have B3g : Own w4 w1.heap.size (cellsF x A3 c3) 32 := zqn B3f hb; have d0 := B3g.cell 0; have d1 := B3g.cell 1; have d2 := B3g.cell 2; have d3 := B3g.cell 3; have dz := fun i => B3g.fz i)))
    all_goals
     go_wp2_with fail
     have hN3 : w2.heap.size ≤ w3.heap.size := hp.size
     have hN4 : w3.heap.size < w4.heap.size := by have := hb.size; simp at this; omega
     have hp2 : p2 ++ qq.2 = p ++ s := hpp.trans HPP.out
     have hb5 : ∀ {x0 x1 x2 x3 : Value}, Below w.heap.size w3 ((((w4.setCell ⟨w1.heap.size, 0, none⟩ x0).setCell ⟨w1.heap.size, 1, none⟩ x1).setCell ⟨w1.heap.size, 2, none⟩ x2).setCell ⟨w1.heap.size, 3, none⟩ x3) :=
      (((((zqz (by omega) _).trans (hb.mono (by simp; omega))).setCell (Nat.le_of_lt hN1) _).setCell (Nat.le_of_lt hN1) _).setCell (Nat.le_of_lt hN1) _).setCell (Nat.le_of_lt hN1) _
     go_roundg gk
     case measure => omega
     case rel =>
      refine ⟨by omega, tm 4 noName [t, u], tmR 4 noName [x, z], some ⟨w3.heap.size, 0, none⟩, 2, p2, qq, by rw [HX.out, HZ.out]; rfl, HE.out, hp2, HH.out.old hp2 hrd2 hb5, (hP.trans hp).belowN hb5, zqF (zqn B2f hb) hnn, Own.four B3g, ?_⟩
      exact TmXF.kids2 4 noName ((hv.same (SameX.of_past hp fun b h => by omega)).same (((SameX.of_below (zqb (Below.refl _ _) _)).trans (SameX.of_below hb)).trans (SameX.four fun b h => h.2)))
       ((hv2.toX (ok := fun b => w.heap.size < b ∧ b ≠ w1.heap.size) (fun b h1 h2 => ⟨by have : w2.heap.size ≤ b := h1; omega, by have : w2.heap.size ≤ b := h1; omega⟩)).same (((SameX.of_below (zqb (Below.refl _ _) _)).trans (SameX.of_below hb)).trans (SameX.four fun b h => h.2)))
       (zqF (zqn D2f hb) (by omega)) ⟨by omega, by omega⟩
end Go.Proofs.YtchekgnacodolaaGreatDoor.X
end
section
namespace Go.Proofs.YtchekgnacodolaaGreatDoor.X
open Go.RowKit Go.Proofs.YtchekgnacodolaaGreatDoorW.PrintWords Go.Proofs.YtchekgnacodolaaGreatDoorW.PrintLast Go.Proofs.YtchekgnacodolaaGreatDoorW.PrintMore
set_option linter.unusedSimpArgs false
set_option linter.unusedVariables false
theorem rfMustF (m : ByteArray) (g : Nat) (A : Option Addr) (c : Nat) (p : List TokT) (q : FS) (w : World) (h : Rf g A c q.1 p q.2 w) :
  Calls Tryz.prog 145 #[.pointer (some ⟨g, 0, none⟩), .string m] w fun e w' => e = .returned (.tuple #[]) ∧ Past g w w' ∧ ∃ p', p' ++ (fMust m q).2 = p ++ q.2 ∧ Rf g A c (fMust m q).1 p' (fMust m q).2 w' := by
 refine (rfMust m g A c q.1 p q.2 w h).mono ?_
 rintro e w' ⟨rfl, hp, h1, h2⟩
 refine ⟨rfl, hp, ?_⟩
 cases hm : isL q.2 m with
 | false =>
  have e0 : fMust m q = (true, q.2) := by unfold fMust; rw [if_neg (by simp [hm])]
  rw [e0]
  exact ⟨p, rfl, h1 hm⟩
 | true =>
  obtain ⟨x, r, hs, hr⟩ := h2 hm
  have e0 : fMust m q = (q.1, r) := by unfold fMust; rw [if_pos hm, hs]; rfl
  rw [e0, hs]
  exact ⟨p ++ [x], by simp, hr⟩
theorem rfNameF (g : Nat) (A : Option Addr) (c : Nat) (p : List TokT) (q : FS) (w : World) (h : Rf g A c q.1 p q.2 w) :
  Calls Tryz.prog 144 #[.pointer (some ⟨g, 0, none⟩)] w fun e w' => e = .returned (.string (fName q).1) ∧ Past g w w' ∧ ∃ p', p' ++ (fName q).2.2 = p ++ q.2 ∧ Rf g A c (fName q).2.1 p' (fName q).2.2 w' := by
 by_cases hx : (peekL q.2).f0 = 1
 ·obtain ⟨b, s⟩ := q
  obtain ⟨x, r, rfl⟩ := peek_ne (s := s) (by rw [hx]; decide)
  have e0 : fName (b, x :: r) = (x.f1, (b, r)) := by unfold fName; rw [if_pos hx]; rfl
  refine (rfName_yes g A c b p x r w h hx).mono ?_
  rintro e w' ⟨rfl, hp, hr⟩
  rw [e0]
  exact ⟨rfl, hp, p ++ [x], by simp, hr⟩
 ·have e0 : fName q = (noName, (true, q.2)) := by unfold fName; rw [if_neg hx]
  refine (rfName_no g A c q.1 p q.2 w h hx).mono ?_
  rintro e w' ⟨rfl, hp, hr⟩
  rw [e0]
  exact ⟨rfl, hp, p, rfl, hr⟩
theorem rfTake_no {m : ByteArray} {g : Nat} {A : Option Addr} {c : Nat} {b : Bool} {p s : List TokT} {w : World} (h : Rf g A c b p s w) (hm : isL s m = false) :
  Calls Tryz.prog 92 #[.pointer (some ⟨g, 0, none⟩), .string m] w fun e w' => e = .returned (.bool false) ∧ Past g w w' ∧ Rf g A c b p s w' := by
 refine (rfTake m g A c b p s w h).mono ?_
 rintro e w' ⟨rfl, hp, h1, -⟩
 exact ⟨by rw [hm], hp, h1 hm⟩
theorem rfTake_yes {m : ByteArray} {g : Nat} {A : Option Addr} {c : Nat} {b : Bool} {p s : List TokT} {w : World} (h : Rf g A c b p s w) (hm : isL s m = true) :
  Calls Tryz.prog 92 #[.pointer (some ⟨g, 0, none⟩), .string m] w fun e w' => e = .returned (.bool true) ∧ Past g w w' ∧ ∃ p', p' ++ s.tail = p ++ s ∧ Rf g A c b p' s.tail w' := by
 refine (rfTake m g A c b p s w h).mono ?_
 rintro e w' ⟨rfl, hp, -, h2⟩
 obtain ⟨x, r, rfl, hr⟩ := h2 hm
 exact ⟨by rw [hm], hp, p ++ [x], by simp, hr⟩
end Go.Proofs.YtchekgnacodolaaGreatDoor.X
end
section
namespace Go.Proofs.YtchekgnacodolaaGreatDoor.X
open Go.RowKit Go.Proofs.YtchekgnacodolaaGreatDoorW.PrintWords Go.Proofs.YtchekgnacodolaaGreatDoorW.PrintLast Go.Proofs.YtchekgnacodolaaGreatDoorW.PrintMore
set_option linter.unusedSimpArgs false
set_option linter.unusedVariables false
theorem rf_one (k : Nat) (HO : RFH 91 .one k) (HA : RFH 55 .all k) (HL : RFH 146 .plain k) : RFH 91 .one (k + 1) := by
 rintro g A c p ⟨b, s⟩ w tr q' h hrun
 have hrd := Rf.below h (zqb (Below.refl _ _) (.cells zeroF 32))
 have hlt := h.lt
 have hne : w.heap.size ≠ g := by omega
 have HH := Lib.hid h
 have B2 := Own.new w zeroF 32
 have P1 : Past g w (w.alloc (.cells zeroF 32)) := Past.of_below (zqb (Below.refl _ _) _)
 have hc2 := h.c2
 clear h
 cases b with
 | true =>
  have e0 : frun (k + 1) .one (true, s) = some (zTm, (true, s)) := by show (if _ then _ else _) = _; rw [if_pos rfl]
  rw [e0] at hrun
  have HE := Lib.hid hrun
  clear hrun e0
  go_enter Tryz.func91, Tryz.ntmps91
  go_wp2_with fail
  refine ret4F rfl rfl (Own.new w _ _) ?_
  have e1 := HE.out
  injection e1 with e1
  injection e1 with e1 e2
  subst e1 e2
  exact OutF.ret HH.out (Past.refl g w) (zqb (Below.refl _ _) _) rfl HH.out (TmF.leaf _ _ 0 ⟨#[]⟩ 0)
 | false =>
  have HE := Lib.hid (show (if isL s kFun = true then (frun k .all (fMust mArrow (fName (false, s.tail)).2)).then_ fun x r => some (tm 3 (fName (false, s.tail)).1 [x], r)
   else if isL s kLet = true then (frun k .all (fMust mEq (fName (false, s.tail)).2)).then_ fun x r => (frun k .all (fMust kIn r)).then_ fun y r => some (tm 5 (fName (false, s.tail)).1 [x, y], r)
   else if isL s kIf = true then (frun k .all (false, s.tail)).then_ fun c r => (frun k .all (fMust kThen r)).then_ fun x r => (frun k .all (fMust kElse r)).then_ fun y r => some (tm 6 noName [c, x, y], r)
   else if isL s kWhile = true then (frun k .all (false, s.tail)).then_ fun c r => (frun k .all (fMust kDo r)).then_ fun x r => some (tm 7 noName [c, x], r)
   else if isL s kRaise = true then (frun k .one (false, s.tail)).then_ fun x r => some (tm 8 noName [x], r)
   else if isL s kTry = true then (frun k .all (false, s.tail)).then_ fun x r => (frun k .all (fMust mArrow (fName (fMust kWith r)).2)).then_ fun y r2 => some (tm 9 (fName (fMust kWith r)).1 [x, y], r2)
   else frun k .plain (false, s)) = some (tr, q') from hrun)
  clear hrun
  go_enter Tryz.func91, Tryz.ntmps91
  cases hm : isL s kFun with
  | true =>
   have K := Lib.hid (rfTake_yes hrd hm)
   have he := HE.out
   rw [if_pos hm] at he
   clear HE hm hrd
   obtain ⟨t0, r0, hr0, he⟩ := fthen_some he
   have HR0 := Lib.hid hr0
   clear hr0
   have HE := Lib.hid he
   clear he
   go_wp2_with fail
   refine K.out.mono ?_
   rintro e w1 ⟨rfl, hp, p1, hpp, hrd⟩
   have P1 := P1.trans hp
   have B2 := B2.past hp hne
   have hN0 : w.heap.size < w1.heap.size := B2.lt
   have HPP := Lib.hid hpp
   clear hp hpp K hc2
   have K := Lib.hid (rfNameF g A c p1 (false, s.tail) _ hrd)
   clear hrd
   go_wp2_with fail
   refine K.out.mono ?_
   rintro e w2 ⟨rfl, hp, p2, hpp, hrd⟩
   have P1 := P1.trans hp
   have hNN := hp.size
   (try simp only [World.size_alloc] at hNN)
   have B2 := B2.past hp hne
   have HPP := Lib.hid (hpp.trans HPP.out)
   clear hp hpp K
   have K := Lib.hid (rfMustF mArrow g A c p2 (fName (false, s.tail)).2 _ hrd)
   clear hrd
   go_wp2_with fail
   refine K.out.mono ?_
   rintro e w3 ⟨rfl, hp, p3, hpp, hrd⟩
   have P1 := P1.trans hp
   have hNN := hp.size
   (try simp only [World.size_alloc] at hNN)
   have B2 := B2.past hp hne
   have HPP := Lib.hid (hpp.trans HPP.out)
   clear hp hpp K
   have K := Lib.hid (HA.out hrd HR0.out)
   clear hrd
   go_wp2_with fail
   refine K.out.mono ?_
   rintro e w4 ⟨z0, A0, c0, p4, hz, rfl, hp, hv0, hpp, hrd⟩
   have HZ0 := Lib.hid hz
   clear hz K
   have hN3 : w3.heap.size ≤ w4.heap.size := hp.size
   have P3 := P1.trans hp
   have B2f := (B2.past hp hne).alloc (.cells #[.int .i64 z0.f0, .string z0.f1, .int .i64 z0.f2, .slice A0 z0.f3.length c0] 32)
   have D2f := Own.new w4 #[.int .i64 z0.f0, .string z0.f1, .int .i64 z0.f2, .slice A0 z0.f3.length c0] 32
   clear hp
   go_wp2_with fail
   refine (rfNode 3 (fName (false, s.tail)).1 (some ⟨w4.heap.size, 0, none⟩) 1 1 _).mono ?_
   rintro e w5 ⟨rfl, hb⟩
   have B2g : Own w5 w.heap.size zeroF 32 := zqn B2f hb
   have D2g := zqn D2f hb
   have hN4 : w4.heap.size < w5.heap.size := by have := hb.size; simp at this; omega
   have d0 := B2g.cell 0
   have d1 := B2g.cell 1
   have d2 := B2g.cell 2
   have d3 := B2g.cell 3
   have dz := fun i => B2g.fz i
   have HB := Lib.hid hb
   clear hb
   go_wp2_with fail
   refine ret4F rfl rfl (Own.four B2g) ?_
   have e1 := HE.out
   injection e1 with e1
   injection e1 with e1 e2
   subst e1 e2
   refine OutF.ret HH.out P3 (zqu (w3size := 0) ((zqz (by omega) _).trans (HB.out.mono (by simp; omega)))) (hpp.trans HPP.out) hrd ?_
   show TmF _ _ (tmR 3 (fName (false, s.tail)).1 [toR t0]) _
   rw [← HZ0.out]
   exact (TmF.kids1 3 (fName (false, s.tail)).1 ((hv0.mono (show w.heap.size + 1 ≤ w3.heap.size by omega)).same ((((Same.refl _ _).alloc _).trans (Same.of_below HB.out)).trans (zqv (Same.refl _ _) (by omega)))) (zqF D2g (by omega)) (by omega)).mono (by omega)
  | false =>
   have K := Lib.hid (rfTake_no hrd hm)
   have he := HE.out
   rw [if_neg (by simp [hm])] at he
   have HE := Lib.hid he
   clear he hm hrd
   go_wp2_with fail
   refine K.out.mono ?_
   rintro e w1 ⟨rfl, hp, hrd⟩
   have P1 := P1.trans hp
   have B2 := B2.past hp hne
   clear hp K hc2
   cases hm : isL s kLet with
   | true =>
    have K := Lib.hid (rfTake_yes hrd hm)
    have he := HE.out
    rw [if_pos hm] at he
    clear HE hm hrd
    obtain ⟨t0, r0, hr0, he⟩ := fthen_some he
    have HR0 := Lib.hid hr0
    clear hr0
    obtain ⟨t1, r1, hr1, he⟩ := fthen_some he
    have HR1 := Lib.hid hr1
    clear hr1
    have HE := Lib.hid he
    clear he
    go_wp2_with fail
    refine K.out.mono ?_
    rintro e w2 ⟨rfl, hp, p1, hpp, hrd⟩
    have P1 := P1.trans hp
    have B2 := B2.past hp hne
    have hN0 : w.heap.size < w2.heap.size := B2.lt
    have HPP := Lib.hid hpp
    clear hp hpp K
    have K := Lib.hid (rfNameF g A c p1 (false, s.tail) _ hrd)
    clear hrd
    go_wp2_with fail
    refine K.out.mono ?_
    rintro e w3 ⟨rfl, hp, p3, hpp, hrd⟩
    have P1 := P1.trans hp
    have hNN := hp.size
    (try simp only [World.size_alloc] at hNN)
    have B2 := B2.past hp hne
    have HPP := Lib.hid (hpp.trans HPP.out)
    clear hp hpp K
    have K := Lib.hid (rfMustF mEq g A c p3 (fName (false, s.tail)).2 _ hrd)
    clear hrd
    go_wp2_with fail
    refine K.out.mono ?_
    rintro e w4 ⟨rfl, hp, p4, hpp, hrd⟩
    have P1 := P1.trans hp
    have hNN := hp.size
    (try simp only [World.size_alloc] at hNN)
    have B2 := B2.past hp hne
    have HPP := Lib.hid (hpp.trans HPP.out)
    clear hp hpp K
    have K := Lib.hid (HA.out hrd HR0.out)
    clear hrd
    go_wp2_with fail
    refine K.out.mono ?_
    rintro e w5 ⟨z0, A0, c0, p5, hz, rfl, hp, hv0, hpp, hrd⟩
    have HZ0 := Lib.hid hz
    clear hz
    have hN := hp.size
    (try simp only [World.size_alloc] at hN)
    have hne0 : w5.heap.size ≠ g := by omega
    have P1 := (P1.trans hp).alloc (.cells (cellsF z0 A0 c0) 32)
    have B2 := (B2.past hp hne).alloc (.cells (cellsF z0 A0 c0) 32)
    have D0 := Own.new w5 (cellsF z0 A0 c0) 32
    have hv0 := (hv0.mono (show w.heap.size + 1 ≤ w4.heap.size by omega)).same ((Same.refl _ _).alloc (.cells (cellsF z0 A0 c0) 32))
    have hrd := Rf.below hrd (zqb (Below.refl _ _) (.cells (cellsF z0 A0 c0) 32))
    have HPP := Lib.hid (hpp.trans HPP.out)
    clear hp hpp K
    have hnn0 : w.heap.size ≠ w5.heap.size := by omega
    have K := Lib.hid (rfMustF kIn g A c p5 r0 _ hrd)
    clear hrd
    go_wp2_with fail
    refine K.out.mono ?_
    rintro e w6 ⟨rfl, hp, p6, hpp, hrd⟩
    have P1 := P1.trans hp
    have hNN := hp.size
    (try simp only [World.size_alloc] at hNN)
    have B2 := B2.past hp hne
    have D0 := D0.past hp hne0
    have hv0 := hv0.same (Same.of_past hp (by omega))
    have HPP := Lib.hid (hpp.trans HPP.out)
    clear hp hpp K
    have s00 := D0.cell 0
    have s01 := D0.cell 1
    have s02 := D0.cell 2
    have s03 := D0.cell 3
    have D0d : Own (World.drew _) w5.heap.size (cellsF z0 A0 c0) 32 := D0
    have hv0 := hv0.same ((Same.refl _ _).drew)
    have KP := Lib.hid (HA.out (Rf.below hrd (zqx (Below.refl _ _))) HR1.out)
    have B2d : Own (World.drew _) w.heap.size zeroF 32 := B2
    have P1 := P1.drew
    clear hrd
    go_wp2_with fail
    go_region_held3 (fun w' => w'.cell? ⟨w5.heap.size, 0, none⟩ = some (.int .i64 z0.f0) ∧ w'.cell? ⟨w5.heap.size, 1, none⟩ = some (.string z0.f1) ∧ w'.cell? ⟨w5.heap.size, 2, none⟩ = some (.int .i64 z0.f2) ∧ w'.cell? ⟨w5.heap.size, 3, none⟩ = some (.slice A0 z0.f3.length c0)) (go_keep)
     ((first
      | (go_at_call 55; refine KP.out.mono ?_; rintro e w7 ⟨z1, A1, c1, p7, hz, rfl, hp, hv1, hpp, hrd⟩; have HZ1 := Lib.hid hz; clear hz; have B2e := B2d.past hp hne; have D0e := D0d.past hp hne0; have s00 := D0e.cell 0; have s01 := D0e.cell 1; have s02 := D0e.cell 2; have s03 := D0e.cell 3; have D0f := D0e.alloc (.cells #[.int .i64 z0.f0, .string z0.f1, .int .i64 z0.f2, .slice A0 z0.f3.length c0, .int .i64 z1.f0, .string z1.f1, .int .i64 z1.f2, .slice A1 z1.f3.length c1] 32); have B2f := B2e.alloc (.cells #[.int .i64 z0.f0, .string z0.f1, .int .i64 z0.f2, .slice A0 z0.f3.length c0, .int .i64 z1.f0, .string z1.f1, .int .i64 z1.f2, .slice A1 z1.f3.length c1] 32); have D2f := Own.new w7 #[.int .i64 z0.f0, .string z0.f1, .int .i64 z0.f2, .slice A0 z0.f3.length c0, .int .i64 z1.f0, .string z1.f1, .int .i64 z1.f2, .slice A1 z1.f3.length c1] 32)
      | (go_at_call 93; refine (rfNode 5 (fName (false, s.tail)).1 (some ⟨w7.heap.size, 0, none⟩) 2 2 _).mono ?_; rintro e w8 ⟨rfl, hb⟩; have B2g : Own w8 w.heap.size zeroF 32 := zqn B2f hb; have D2g := zqn D2f hb; have D0g := zqn D0f hb; have D0h : Own w8 w5.heap.size (cellsF z0 A0 c0) 32 := D0g; have s00 := D0h.cell 0; have s01 := D0h.cell 1; have s02 := D0h.cell 2; have s03 := D0h.cell 3; have d0 := B2g.cell 0; have d1 := B2g.cell 1; have d2 := B2g.cell 2; have d3 := B2g.cell 3; have dz := fun i => B2g.fz i)))
    go_wp2_with fail
    have hN3 : w6.heap.size ≤ w7.heap.size := hp.size
    have hN4 : w7.heap.size < w8.heap.size := by have := hb.size; simp at this; omega
    have P3 := P1.trans hp
    have HB := Lib.hid hb
    refine ret4F rfl rfl (Own.four B2g) ?_
    have e1 := HE.out
    injection e1 with e1
    injection e1 with e1 e2
    subst e1 e2
    refine OutF.ret HH.out P3 (zqu (w3size := 0) ((zqz (by omega) _).trans (HB.out.mono (by simp; omega)))) (hpp.trans HPP.out) hrd ?_
    show TmF _ _ (tmR 5 (fName (false, s.tail)).1 [toR t0, toR t1]) _
    rw [← HZ0.out, ← HZ1.out]
    exact (TmF.kids2 5 (fName (false, s.tail)).1 ((hv0.same ((((Same.of_past hp (by omega)).alloc _).trans (Same.of_below HB.out)).trans (zqv (Same.refl _ _) (by omega))))) (((hv1.mono (by show w.heap.size + 1 ≤ w6.heap.size; omega)).same ((((Same.refl _ _).alloc _).trans (Same.of_below HB.out)).trans (zqv (Same.refl _ _) (by omega))))) (zqF D2g (by omega)) (by omega)).mono (by omega)
   | false =>
    have K := Lib.hid (rfTake_no hrd hm)
    have he := HE.out
    rw [if_neg (by simp [hm])] at he
    have HE := Lib.hid he
    clear he hm hrd
    go_wp2_with fail
    refine K.out.mono ?_
    rintro e w2 ⟨rfl, hp, hrd⟩
    have P1 := P1.trans hp
    have B2 := B2.past hp hne
    clear hp K
    cases hm : isL s kIf with
    | true =>
     have K := Lib.hid (rfTake_yes hrd hm)
     have he := HE.out
     rw [if_pos hm] at he
     clear HE hm hrd
     obtain ⟨t0, r0, hr0, he⟩ := fthen_some he
     have HR0 := Lib.hid hr0
     clear hr0
     obtain ⟨t1, r1, hr1, he⟩ := fthen_some he
     have HR1 := Lib.hid hr1
     clear hr1
     obtain ⟨t2, r2, hr2, he⟩ := fthen_some he
     have HR2 := Lib.hid hr2
     clear hr2
     have HE := Lib.hid he
     clear he
     go_wp2_with fail
     refine K.out.mono ?_
     rintro e w3 ⟨rfl, hp, p1, hpp, hrd⟩
     have P1 := P1.trans hp
     have B2 := B2.past hp hne
     have hN0 : w.heap.size < w3.heap.size := B2.lt
     have HPP := Lib.hid hpp
     clear hp hpp K
     have K := Lib.hid (HA.out hrd HR0.out)
     clear hrd
     go_wp2_with fail
     refine K.out.mono ?_
     rintro e w4 ⟨z0, A0, c0, p4, hz, rfl, hp, hv0, hpp, hrd⟩
     have HZ0 := Lib.hid hz
     clear hz
     have hN := hp.size
     (try simp only [World.size_alloc] at hN)
     have hne0 : w4.heap.size ≠ g := by omega
     have P1 := (P1.trans hp).alloc (.cells (cellsF z0 A0 c0) 32)
     have B2 := (B2.past hp hne).alloc (.cells (cellsF z0 A0 c0) 32)
     have D0 := Own.new w4 (cellsF z0 A0 c0) 32
     have hv0 := (hv0.mono (show w.heap.size + 1 ≤ w3.heap.size by omega)).same ((Same.refl _ _).alloc (.cells (cellsF z0 A0 c0) 32))
     have hrd := Rf.below hrd (zqb (Below.refl _ _) (.cells (cellsF z0 A0 c0) 32))
     have HPP := Lib.hid (hpp.trans HPP.out)
     clear hp hpp K
     have hnn0 : w.heap.size ≠ w4.heap.size := by omega
     have K := Lib.hid (rfMustF kThen g A c p4 r0 _ hrd)
     clear hrd
     go_wp2_with fail
     refine K.out.mono ?_
     rintro e w5 ⟨rfl, hp, p5, hpp, hrd⟩
     have P1 := P1.trans hp
     have hNN := hp.size
     (try simp only [World.size_alloc] at hNN)
     have B2 := B2.past hp hne
     have D0 := D0.past hp hne0
     have hv0 := hv0.same (Same.of_past hp (by omega))
     have HPP := Lib.hid (hpp.trans HPP.out)
     clear hp hpp K
     have K := Lib.hid (HA.out hrd HR1.out)
     clear hrd
     go_wp2_with fail
     refine K.out.mono ?_
     rintro e w6 ⟨z1, A1, c1, p6, hz, rfl, hp, hv1, hpp, hrd⟩
     have HZ1 := Lib.hid hz
     clear hz
     have hN := hp.size
     (try simp only [World.size_alloc] at hN)
     have hne1 : w6.heap.size ≠ g := by omega
     have P1 := (P1.trans hp).alloc (.cells (cellsF z1 A1 c1) 32)
     have B2 := (B2.past hp hne).alloc (.cells (cellsF z1 A1 c1) 32)
     have D0 := (D0.past hp hne0).alloc (.cells (cellsF z1 A1 c1) 32)
     have hv0 := hv0.same ((Same.of_past hp (by omega)).alloc (.cells (cellsF z1 A1 c1) 32))
     have D1 := Own.new w6 (cellsF z1 A1 c1) 32
     have hv1 := (hv1.mono (show w.heap.size + 1 ≤ w5.heap.size by omega)).same ((Same.refl _ _).alloc (.cells (cellsF z1 A1 c1) 32))
     have hrd := Rf.below hrd (zqb (Below.refl _ _) (.cells (cellsF z1 A1 c1) 32))
     have HPP := Lib.hid (hpp.trans HPP.out)
     clear hp hpp K
     have hnn1 : w.heap.size ≠ w6.heap.size := by omega
     have K := Lib.hid (rfMustF kElse g A c p6 r1 _ hrd)
     clear hrd
     go_wp2_with fail
     refine K.out.mono ?_
     rintro e w7 ⟨rfl, hp, p7, hpp, hrd⟩
     have P1 := P1.trans hp
     have hNN := hp.size
     (try simp only [World.size_alloc] at hNN)
     have B2 := B2.past hp hne
     have D0 := D0.past hp hne0
     have hv0 := hv0.same (Same.of_past hp (by omega))
     have D1 := D1.past hp hne1
     have hv1 := hv1.same (Same.of_past hp (by omega))
     have HPP := Lib.hid (hpp.trans HPP.out)
     clear hp hpp K
     have s00 := D0.cell 0
     have s01 := D0.cell 1
     have s02 := D0.cell 2
     have s03 := D0.cell 3
     have D0d : Own (World.drew _) w4.heap.size (cellsF z0 A0 c0) 32 := D0
     have hv0 := hv0.same ((Same.refl _ _).drew)
     have s10 := D1.cell 0
     have s11 := D1.cell 1
     have s12 := D1.cell 2
     have s13 := D1.cell 3
     have D1d : Own (World.drew _) w6.heap.size (cellsF z1 A1 c1) 32 := D1
     have hv1 := hv1.same ((Same.refl _ _).drew)
     have KP := Lib.hid (HA.out (Rf.below hrd (zqx (Below.refl _ _))) HR2.out)
     have B2d : Own (World.drew _) w.heap.size zeroF 32 := B2
     have P1 := P1.drew
     clear hrd
     go_wp2_with fail
     go_region_held3 (fun w' => w'.cell? ⟨w4.heap.size, 0, none⟩ = some (.int .i64 z0.f0) ∧ w'.cell? ⟨w4.heap.size, 1, none⟩ = some (.string z0.f1) ∧ w'.cell? ⟨w4.heap.size, 2, none⟩ = some (.int .i64 z0.f2) ∧ w'.cell? ⟨w4.heap.size, 3, none⟩ = some (.slice A0 z0.f3.length c0) ∧ w'.cell? ⟨w6.heap.size, 0, none⟩ = some (.int .i64 z1.f0) ∧ w'.cell? ⟨w6.heap.size, 1, none⟩ = some (.string z1.f1) ∧ w'.cell? ⟨w6.heap.size, 2, none⟩ = some (.int .i64 z1.f2) ∧ w'.cell? ⟨w6.heap.size, 3, none⟩ = some (.slice A1 z1.f3.length c1)) (go_keep)
      ((first
       | (go_at_call 55; refine KP.out.mono ?_; rintro e w8 ⟨z2, A2, c2, p8, hz, rfl, hp, hv2, hpp, hrd⟩; have HZ2 := Lib.hid hz; clear hz; have B2e := B2d.past hp hne; have D0e := D0d.past hp hne0; have s00 := D0e.cell 0; have s01 := D0e.cell 1; have s02 := D0e.cell 2; have s03 := D0e.cell 3; have D0f := D0e.alloc (.cells #[.int .i64 z0.f0, .string z0.f1, .int .i64 z0.f2, .slice A0 z0.f3.length c0, .int .i64 z1.f0, .string z1.f1, .int .i64 z1.f2, .slice A1 z1.f3.length c1, .int .i64 z2.f0, .string z2.f1, .int .i64 z2.f2, .slice A2 z2.f3.length c2] 32); have D1e := D1d.past hp hne1; have s10 := D1e.cell 0; have s11 := D1e.cell 1; have s12 := D1e.cell 2; have s13 := D1e.cell 3; have D1f := D1e.alloc (.cells #[.int .i64 z0.f0, .string z0.f1, .int .i64 z0.f2, .slice A0 z0.f3.length c0, .int .i64 z1.f0, .string z1.f1, .int .i64 z1.f2, .slice A1 z1.f3.length c1, .int .i64 z2.f0, .string z2.f1, .int .i64 z2.f2, .slice A2 z2.f3.length c2] 32); have B2f := B2e.alloc (.cells #[.int .i64 z0.f0, .string z0.f1, .int .i64 z0.f2, .slice A0 z0.f3.length c0, .int .i64 z1.f0, .string z1.f1, .int .i64 z1.f2, .slice A1 z1.f3.length c1, .int .i64 z2.f0, .string z2.f1, .int .i64 z2.f2, .slice A2 z2.f3.length c2] 32); have D2f := Own.new w8 #[.int .i64 z0.f0, .string z0.f1, .int .i64 z0.f2, .slice A0 z0.f3.length c0, .int .i64 z1.f0, .string z1.f1, .int .i64 z1.f2, .slice A1 z1.f3.length c1, .int .i64 z2.f0, .string z2.f1, .int .i64 z2.f2, .slice A2 z2.f3.length c2] 32)
       | (go_at_call 93; refine (rfNode 6 ⟨#[]⟩ (some ⟨w8.heap.size, 0, none⟩) 3 3 _).mono ?_; rintro e w9 ⟨rfl, hb⟩; have B2g : Own w9 w.heap.size zeroF 32 := zqn B2f hb; have D2g := zqn D2f hb; have D0g := zqn D0f hb; have D0h : Own w9 w4.heap.size (cellsF z0 A0 c0) 32 := D0g; have s00 := D0h.cell 0; have s01 := D0h.cell 1; have s02 := D0h.cell 2; have s03 := D0h.cell 3; have D1g := zqn D1f hb; have D1h : Own w9 w6.heap.size (cellsF z1 A1 c1) 32 := D1g; have s10 := D1h.cell 0; have s11 := D1h.cell 1; have s12 := D1h.cell 2; have s13 := D1h.cell 3; have d0 := B2g.cell 0; have d1 := B2g.cell 1; have d2 := B2g.cell 2; have d3 := B2g.cell 3; have dz := fun i => B2g.fz i)))
     go_wp2_with fail
     have hN3 : w7.heap.size ≤ w8.heap.size := hp.size
     have hN4 : w8.heap.size < w9.heap.size := by have := hb.size; simp at this; omega
     have P3 := P1.trans hp
     have HB := Lib.hid hb
     refine ret4F rfl rfl (Own.four B2g) ?_
     have e1 := HE.out
     injection e1 with e1
     injection e1 with e1 e2
     subst e1 e2
     refine OutF.ret HH.out P3 (zqu (w3size := 0) ((zqz (by omega) _).trans (HB.out.mono (by simp; omega)))) (hpp.trans HPP.out) hrd ?_
     show TmF _ _ (tmR 6 noName [toR t0, toR t1, toR t2]) _
     rw [← HZ0.out, ← HZ1.out, ← HZ2.out]
     exact (TmF.kids3 6 noName ((hv0.same ((((Same.of_past hp (by omega)).alloc _).trans (Same.of_below HB.out)).trans (zqv (Same.refl _ _) (by omega))))) ((hv1.same ((((Same.of_past hp (by omega)).alloc _).trans (Same.of_below HB.out)).trans (zqv (Same.refl _ _) (by omega))))) (((hv2.mono (by show w.heap.size + 1 ≤ w7.heap.size; omega)).same ((((Same.refl _ _).alloc _).trans (Same.of_below HB.out)).trans (zqv (Same.refl _ _) (by omega))))) (zqF D2g (by omega)) (by omega)).mono (by omega)
    | false =>
     have K := Lib.hid (rfTake_no hrd hm)
     have he := HE.out
     rw [if_neg (by simp [hm])] at he
     have HE := Lib.hid he
     clear he hm hrd
     go_wp2_with fail
     refine K.out.mono ?_
     rintro e w3 ⟨rfl, hp, hrd⟩
     have P1 := P1.trans hp
     have B2 := B2.past hp hne
     clear hp K
     cases hm : isL s kWhile with
     | true =>
      have K := Lib.hid (rfTake_yes hrd hm)
      have he := HE.out
      rw [if_pos hm] at he
      clear HE hm hrd
      obtain ⟨t0, r0, hr0, he⟩ := fthen_some he
      have HR0 := Lib.hid hr0
      clear hr0
      obtain ⟨t1, r1, hr1, he⟩ := fthen_some he
      have HR1 := Lib.hid hr1
      clear hr1
      have HE := Lib.hid he
      clear he
      go_wp2_with fail
      refine K.out.mono ?_
      rintro e w4 ⟨rfl, hp, p1, hpp, hrd⟩
      have P1 := P1.trans hp
      have B2 := B2.past hp hne
      have hN0 : w.heap.size < w4.heap.size := B2.lt
      have HPP := Lib.hid hpp
      clear hp hpp K
      have K := Lib.hid (HA.out hrd HR0.out)
      clear hrd
      go_wp2_with fail
      refine K.out.mono ?_
      rintro e w5 ⟨z0, A0, c0, p5, hz, rfl, hp, hv0, hpp, hrd⟩
      have HZ0 := Lib.hid hz
      clear hz
      have hN := hp.size
      (try simp only [World.size_alloc] at hN)
      have hne0 : w5.heap.size ≠ g := by omega
      have P1 := (P1.trans hp).alloc (.cells (cellsF z0 A0 c0) 32)
      have B2 := (B2.past hp hne).alloc (.cells (cellsF z0 A0 c0) 32)
      have D0 := Own.new w5 (cellsF z0 A0 c0) 32
      have hv0 := (hv0.mono (show w.heap.size + 1 ≤ w4.heap.size by omega)).same ((Same.refl _ _).alloc (.cells (cellsF z0 A0 c0) 32))
      have hrd := Rf.below hrd (zqb (Below.refl _ _) (.cells (cellsF z0 A0 c0) 32))
      have HPP := Lib.hid (hpp.trans HPP.out)
      clear hp hpp K
      have hnn0 : w.heap.size ≠ w5.heap.size := by omega
      have K := Lib.hid (rfMustF kDo g A c p5 r0 _ hrd)
      clear hrd
      go_wp2_with fail
      refine K.out.mono ?_
      rintro e w6 ⟨rfl, hp, p6, hpp, hrd⟩
      have P1 := P1.trans hp
      have hNN := hp.size
      (try simp only [World.size_alloc] at hNN)
      have B2 := B2.past hp hne
      have D0 := D0.past hp hne0
      have hv0 := hv0.same (Same.of_past hp (by omega))
      have HPP := Lib.hid (hpp.trans HPP.out)
      clear hp hpp K
      have s00 := D0.cell 0
      have s01 := D0.cell 1
      have s02 := D0.cell 2
      have s03 := D0.cell 3
      have D0d : Own (World.drew _) w5.heap.size (cellsF z0 A0 c0) 32 := D0
      have hv0 := hv0.same ((Same.refl _ _).drew)
      have KP := Lib.hid (HA.out (Rf.below hrd (zqx (Below.refl _ _))) HR1.out)
      have B2d : Own (World.drew _) w.heap.size zeroF 32 := B2
      have P1 := P1.drew
      clear hrd
      go_wp2_with fail
      go_region_held3 (fun w' => w'.cell? ⟨w5.heap.size, 0, none⟩ = some (.int .i64 z0.f0) ∧ w'.cell? ⟨w5.heap.size, 1, none⟩ = some (.string z0.f1) ∧ w'.cell? ⟨w5.heap.size, 2, none⟩ = some (.int .i64 z0.f2) ∧ w'.cell? ⟨w5.heap.size, 3, none⟩ = some (.slice A0 z0.f3.length c0)) (go_keep)
       ((first
        | (go_at_call 55; refine KP.out.mono ?_; rintro e w7 ⟨z1, A1, c1, p7, hz, rfl, hp, hv1, hpp, hrd⟩; have HZ1 := Lib.hid hz; clear hz; have B2e := B2d.past hp hne; have D0e := D0d.past hp hne0; have s00 := D0e.cell 0; have s01 := D0e.cell 1; have s02 := D0e.cell 2; have s03 := D0e.cell 3; have D0f := D0e.alloc (.cells #[.int .i64 z0.f0, .string z0.f1, .int .i64 z0.f2, .slice A0 z0.f3.length c0, .int .i64 z1.f0, .string z1.f1, .int .i64 z1.f2, .slice A1 z1.f3.length c1] 32); have B2f := B2e.alloc (.cells #[.int .i64 z0.f0, .string z0.f1, .int .i64 z0.f2, .slice A0 z0.f3.length c0, .int .i64 z1.f0, .string z1.f1, .int .i64 z1.f2, .slice A1 z1.f3.length c1] 32); have D2f := Own.new w7 #[.int .i64 z0.f0, .string z0.f1, .int .i64 z0.f2, .slice A0 z0.f3.length c0, .int .i64 z1.f0, .string z1.f1, .int .i64 z1.f2, .slice A1 z1.f3.length c1] 32)
        | (go_at_call 93; refine (rfNode 7 ⟨#[]⟩ (some ⟨w7.heap.size, 0, none⟩) 2 2 _).mono ?_; rintro e w8 ⟨rfl, hb⟩; have B2g : Own w8 w.heap.size zeroF 32 := zqn B2f hb; have D2g := zqn D2f hb; have D0g := zqn D0f hb; have D0h : Own w8 w5.heap.size (cellsF z0 A0 c0) 32 := D0g; have s00 := D0h.cell 0; have s01 := D0h.cell 1; have s02 := D0h.cell 2; have s03 := D0h.cell 3; have d0 := B2g.cell 0; have d1 := B2g.cell 1; have d2 := B2g.cell 2; have d3 := B2g.cell 3; have dz := fun i => B2g.fz i)))
      go_wp2_with fail
      have hN3 : w6.heap.size ≤ w7.heap.size := hp.size
      have hN4 : w7.heap.size < w8.heap.size := by have := hb.size; simp at this; omega
      have P3 := P1.trans hp
      have HB := Lib.hid hb
      refine ret4F rfl rfl (Own.four B2g) ?_
      have e1 := HE.out
      injection e1 with e1
      injection e1 with e1 e2
      subst e1 e2
      refine OutF.ret HH.out P3 (zqu (w3size := 0) ((zqz (by omega) _).trans (HB.out.mono (by simp; omega)))) (hpp.trans HPP.out) hrd ?_
      show TmF _ _ (tmR 7 noName [toR t0, toR t1]) _
      rw [← HZ0.out, ← HZ1.out]
      exact (TmF.kids2 7 noName ((hv0.same ((((Same.of_past hp (by omega)).alloc _).trans (Same.of_below HB.out)).trans (zqv (Same.refl _ _) (by omega))))) (((hv1.mono (by show w.heap.size + 1 ≤ w6.heap.size; omega)).same ((((Same.refl _ _).alloc _).trans (Same.of_below HB.out)).trans (zqv (Same.refl _ _) (by omega))))) (zqF D2g (by omega)) (by omega)).mono (by omega)
     | false =>
      have K := Lib.hid (rfTake_no hrd hm)
      have he := HE.out
      rw [if_neg (by simp [hm])] at he
      have HE := Lib.hid he
      clear he hm hrd
      go_wp2_with fail
      refine K.out.mono ?_
      rintro e w4 ⟨rfl, hp, hrd⟩
      have P1 := P1.trans hp
      have B2 := B2.past hp hne
      clear hp K
      cases hm : isL s kRaise with
      | true =>
       have K := Lib.hid (rfTake_yes hrd hm)
       have he := HE.out
       rw [if_pos hm] at he
       clear HE hm hrd
       obtain ⟨t0, r0, hr0, he⟩ := fthen_some he
       have HR0 := Lib.hid hr0
       clear hr0
       have HE := Lib.hid he
       clear he
       go_wp2_with fail
       refine K.out.mono ?_
       rintro e w5 ⟨rfl, hp, p1, hpp, hrd⟩
       have P1 := P1.trans hp
       have B2 := B2.past hp hne
       have hN0 : w.heap.size < w5.heap.size := B2.lt
       have HPP := Lib.hid hpp
       clear hp hpp K
       have K := Lib.hid (HO.out hrd HR0.out)
       clear hrd
       go_wp2_with fail
       refine K.out.mono ?_
       rintro e w6 ⟨z0, A0, c0, p6, hz, rfl, hp, hv0, hpp, hrd⟩
       have HZ0 := Lib.hid hz
       clear hz K
       have hN3 : w5.heap.size ≤ w6.heap.size := hp.size
       have P3 := P1.trans hp
       have B2f := (B2.past hp hne).alloc (.cells #[.int .i64 z0.f0, .string z0.f1, .int .i64 z0.f2, .slice A0 z0.f3.length c0] 32)
       have D2f := Own.new w6 #[.int .i64 z0.f0, .string z0.f1, .int .i64 z0.f2, .slice A0 z0.f3.length c0] 32
       clear hp
       go_wp2_with fail
       refine (rfNode 8 ⟨#[]⟩ (some ⟨w6.heap.size, 0, none⟩) 1 1 _).mono ?_
       rintro e w7 ⟨rfl, hb⟩
       have B2g : Own w7 w.heap.size zeroF 32 := zqn B2f hb
       have D2g := zqn D2f hb
       have hN4 : w6.heap.size < w7.heap.size := by have := hb.size; simp at this; omega
       have d0 := B2g.cell 0
       have d1 := B2g.cell 1
       have d2 := B2g.cell 2
       have d3 := B2g.cell 3
       have dz := fun i => B2g.fz i
       have HB := Lib.hid hb
       clear hb
       go_wp2_with fail
       refine ret4F rfl rfl (Own.four B2g) ?_
       have e1 := HE.out
       injection e1 with e1
       injection e1 with e1 e2
       subst e1 e2
       refine OutF.ret HH.out P3 (zqu (w3size := 0) ((zqz (by omega) _).trans (HB.out.mono (by simp; omega)))) (hpp.trans HPP.out) hrd ?_
       show TmF _ _ (tmR 8 noName [toR t0]) _
       rw [← HZ0.out]
       exact (TmF.kids1 8 noName ((hv0.mono (show w.heap.size + 1 ≤ w5.heap.size by omega)).same ((((Same.refl _ _).alloc _).trans (Same.of_below HB.out)).trans (zqv (Same.refl _ _) (by omega)))) (zqF D2g (by omega)) (by omega)).mono (by omega)
      | false =>
       have K := Lib.hid (rfTake_no hrd hm)
       have he := HE.out
       rw [if_neg (by simp [hm])] at he
       have HE := Lib.hid he
       clear he hm hrd
       go_wp2_with fail
       refine K.out.mono ?_
       rintro e w5 ⟨rfl, hp, hrd⟩
       have P1 := P1.trans hp
       have B2 := B2.past hp hne
       clear hp K
       cases hm : isL s kTry with
       | true =>
        have K := Lib.hid (rfTake_yes hrd hm)
        have he := HE.out
        rw [if_pos hm] at he
        clear HE hm hrd
        obtain ⟨t0, r0, hr0, he⟩ := fthen_some he
        have HR0 := Lib.hid hr0
        clear hr0
        obtain ⟨t1, r1, hr1, he⟩ := fthen_some he
        have HR1 := Lib.hid hr1
        clear hr1
        have HE := Lib.hid he
        clear he
        go_wp2_with fail
        refine K.out.mono ?_
        rintro e w6 ⟨rfl, hp, p1, hpp, hrd⟩
        have P1 := P1.trans hp
        have B2 := B2.past hp hne
        have hN0 : w.heap.size < w6.heap.size := B2.lt
        have HPP := Lib.hid hpp
        clear hp hpp K
        have K := Lib.hid (HA.out hrd HR0.out)
        clear hrd
        go_wp2_with fail
        refine K.out.mono ?_
        rintro e w7 ⟨z0, A0, c0, p7, hz, rfl, hp, hv0, hpp, hrd⟩
        have HZ0 := Lib.hid hz
        clear hz
        have hN := hp.size
        (try simp only [World.size_alloc] at hN)
        have hne0 : w7.heap.size ≠ g := by omega
        have P1 := (P1.trans hp).alloc (.cells (cellsF z0 A0 c0) 32)
        have B2 := (B2.past hp hne).alloc (.cells (cellsF z0 A0 c0) 32)
        have D0 := Own.new w7 (cellsF z0 A0 c0) 32
        have hv0 := (hv0.mono (show w.heap.size + 1 ≤ w6.heap.size by omega)).same ((Same.refl _ _).alloc (.cells (cellsF z0 A0 c0) 32))
        have hrd := Rf.below hrd (zqb (Below.refl _ _) (.cells (cellsF z0 A0 c0) 32))
        have HPP := Lib.hid (hpp.trans HPP.out)
        clear hp hpp K
        have hnn0 : w.heap.size ≠ w7.heap.size := by omega
        have K := Lib.hid (rfMustF kWith g A c p7 r0 _ hrd)
        clear hrd
        go_wp2_with fail
        refine K.out.mono ?_
        rintro e w8 ⟨rfl, hp, p8, hpp, hrd⟩
        have P1 := P1.trans hp
        have hNN := hp.size
        (try simp only [World.size_alloc] at hNN)
        have B2 := B2.past hp hne
        have D0 := D0.past hp hne0
        have hv0 := hv0.same (Same.of_past hp (by omega))
        have HPP := Lib.hid (hpp.trans HPP.out)
        clear hp hpp K
        have K := Lib.hid (rfNameF g A c p8 (fMust kWith r0) _ hrd)
        clear hrd
        go_wp2_with fail
        refine K.out.mono ?_
        rintro e w9 ⟨rfl, hp, p9, hpp, hrd⟩
        have P1 := P1.trans hp
        have hNN := hp.size
        (try simp only [World.size_alloc] at hNN)
        have B2 := B2.past hp hne
        have D0 := D0.past hp hne0
        have hv0 := hv0.same (Same.of_past hp (by omega))
        have HPP := Lib.hid (hpp.trans HPP.out)
        clear hp hpp K
        have K := Lib.hid (rfMustF mArrow g A c p9 (fName (fMust kWith r0)).2 _ hrd)
        clear hrd
        go_wp2_with fail
        refine K.out.mono ?_
        rintro e w10 ⟨rfl, hp, p10, hpp, hrd⟩
        have P1 := P1.trans hp
        have hNN := hp.size
        (try simp only [World.size_alloc] at hNN)
        have B2 := B2.past hp hne
        have D0 := D0.past hp hne0
        have hv0 := hv0.same (Same.of_past hp (by omega))
        have HPP := Lib.hid (hpp.trans HPP.out)
        clear hp hpp K
        have s00 := D0.cell 0
        have s01 := D0.cell 1
        have s02 := D0.cell 2
        have s03 := D0.cell 3
        have D0d : Own (World.drew _) w7.heap.size (cellsF z0 A0 c0) 32 := D0
        have hv0 := hv0.same ((Same.refl _ _).drew)
        have KP := Lib.hid (HA.out (Rf.below hrd (zqx (Below.refl _ _))) HR1.out)
        have B2d : Own (World.drew _) w.heap.size zeroF 32 := B2
        have P1 := P1.drew
        clear hrd
        go_wp2_with fail
        go_region_held3 (fun w' => w'.cell? ⟨w7.heap.size, 0, none⟩ = some (.int .i64 z0.f0) ∧ w'.cell? ⟨w7.heap.size, 1, none⟩ = some (.string z0.f1) ∧ w'.cell? ⟨w7.heap.size, 2, none⟩ = some (.int .i64 z0.f2) ∧ w'.cell? ⟨w7.heap.size, 3, none⟩ = some (.slice A0 z0.f3.length c0)) (go_keep)
         ((first
          | (go_at_call 55; refine KP.out.mono ?_; rintro e w11 ⟨z1, A1, c1, p11, hz, rfl, hp, hv1, hpp, hrd⟩; have HZ1 := Lib.hid hz; clear hz; have B2e := B2d.past hp hne; have D0e := D0d.past hp hne0; have s00 := D0e.cell 0; have s01 := D0e.cell 1; have s02 := D0e.cell 2; have s03 := D0e.cell 3; have D0f := D0e.alloc (.cells #[.int .i64 z0.f0, .string z0.f1, .int .i64 z0.f2, .slice A0 z0.f3.length c0, .int .i64 z1.f0, .string z1.f1, .int .i64 z1.f2, .slice A1 z1.f3.length c1] 32); have B2f := B2e.alloc (.cells #[.int .i64 z0.f0, .string z0.f1, .int .i64 z0.f2, .slice A0 z0.f3.length c0, .int .i64 z1.f0, .string z1.f1, .int .i64 z1.f2, .slice A1 z1.f3.length c1] 32); have D2f := Own.new w11 #[.int .i64 z0.f0, .string z0.f1, .int .i64 z0.f2, .slice A0 z0.f3.length c0, .int .i64 z1.f0, .string z1.f1, .int .i64 z1.f2, .slice A1 z1.f3.length c1] 32)
          | (go_at_call 93; refine (rfNode 9 (fName (fMust kWith r0)).1 (some ⟨w11.heap.size, 0, none⟩) 2 2 _).mono ?_; rintro e w12 ⟨rfl, hb⟩; have B2g : Own w12 w.heap.size zeroF 32 := zqn B2f hb; have D2g := zqn D2f hb; have D0g := zqn D0f hb; have D0h : Own w12 w7.heap.size (cellsF z0 A0 c0) 32 := D0g; have s00 := D0h.cell 0; have s01 := D0h.cell 1; have s02 := D0h.cell 2; have s03 := D0h.cell 3; have d0 := B2g.cell 0; have d1 := B2g.cell 1; have d2 := B2g.cell 2; have d3 := B2g.cell 3; have dz := fun i => B2g.fz i)))
        go_wp2_with fail
        have hN3 : w10.heap.size ≤ w11.heap.size := hp.size
        have hN4 : w11.heap.size < w12.heap.size := by have := hb.size; simp at this; omega
        have P3 := P1.trans hp
        have HB := Lib.hid hb
        refine ret4F rfl rfl (Own.four B2g) ?_
        have e1 := HE.out
        injection e1 with e1
        injection e1 with e1 e2
        subst e1 e2
        refine OutF.ret HH.out P3 (zqu (w3size := 0) ((zqz (by omega) _).trans (HB.out.mono (by simp; omega)))) (hpp.trans HPP.out) hrd ?_
        show TmF _ _ (tmR 9 (fName (fMust kWith r0)).1 [toR t0, toR t1]) _
        rw [← HZ0.out, ← HZ1.out]
        exact (TmF.kids2 9 (fName (fMust kWith r0)).1 ((hv0.same ((((Same.of_past hp (by omega)).alloc _).trans (Same.of_below HB.out)).trans (zqv (Same.refl _ _) (by omega))))) (((hv1.mono (by show w.heap.size + 1 ≤ w10.heap.size; omega)).same ((((Same.refl _ _).alloc _).trans (Same.of_below HB.out)).trans (zqv (Same.refl _ _) (by omega))))) (zqF D2g (by omega)) (by omega)).mono (by omega)
       | false =>
        have K := Lib.hid (rfTake_no hrd hm)
        have he := HE.out
        rw [if_neg (by simp [hm])] at he
        have HE := Lib.hid he
        clear he hm hrd
        go_wp2_with fail
        refine K.out.mono ?_
        rintro e w6 ⟨rfl, hp, hrd⟩
        have P1 := P1.trans hp
        have B2 := B2.past hp hne
        clear hp K
        have K := Lib.hid (HL.out hrd HE.out)
        have hN0 : w.heap.size < w6.heap.size := B2.lt
        clear hrd
        go_wp2_with fail
        refine K.out.mono ?_
        rintro e w7 ⟨z, A1, c1, p1, hz, rfl, hp, hv, hpp, hrd⟩
        have HZ := Lib.hid hz
        have P1 := P1.trans hp
        have B2 := B2.past hp hne
        have d0 := B2.cell 0
        have d1 := B2.cell 1
        have d2 := B2.cell 2
        have d3 := B2.cell 3
        have dz := fun i => B2.fz i
        clear hz hp K
        go_wp2_with fail
        refine ret4F rfl rfl (Own.four B2) ?_
        exact OutF.ret HH.out P1 (zqu (w3size := 0) (Below.refl _ _)) hpp hrd (HZ.out ▸ (hv.same (zqv (Same.refl _ _) (by omega))).mono (by omega))
end Go.Proofs.YtchekgnacodolaaGreatDoor.X
end
section
namespace Go.Proofs.YtchekgnacodolaaGreatDoor.X
open Go.RowKit Go.Proofs.YtchekgnacodolaaGreatDoorW.PrintWords Go.Proofs.YtchekgnacodolaaGreatDoorW.PrintLast Go.Proofs.YtchekgnacodolaaGreatDoorW.PrintMore
set_option linter.unusedSimpArgs false
set_option linter.unusedVariables false
abbrev opCells : Array Value := #[.string ⟨#[43]⟩, .string ⟨#[45]⟩, .string ⟨#[42]⟩, .string ⟨#[60]⟩, .string ⟨#[61]⟩]
structure PlF (g : Nat) (A : Option Addr) (c : Nat) (b1 : Bool) (p' s1 : List TokT) (w : World) (n1 n2 : Nat) (x : RTm) (A3 : Option Addr) (c3 : Nat) (i : Nat) (wr : World) : Prop where
 find : (opWords.drop i).find? (isL s1) = opWords.find? (isL s1)
 rd : Rf g A c b1 p' s1 wr
 past : Past g w wr
 b2 : Own wr w.heap.size zeroF 32
 b3 : Own wr n1 (cellsF x A3 c3) 32
 b4 : Own wr n2 opCells 9
 v : TmF (w.heap.size + 1) wr x (.agg (cellsF x A3 c3))
theorem rf_plain (k : Nat) (HP : RFH 181 .parts k) (HO : RFH 91 .one k) : RFH 146 .plain (k + 1) := by
 rintro g A c p ⟨b, s⟩ w tr q' h hrun
 have h0 := Rf.below h (zqb (Below.refl _ _) (.cells zeroF 32))
 have hlt := h.lt
 have hne : w.heap.size ≠ g := by omega
 have HH := Lib.hid h
 have B2 := Own.new w zeroF 32
 have P0 : Past g w (w.alloc (.cells zeroF 32)) := Past.of_below (zqb (Below.refl _ _) _)
 obtain ⟨t, ⟨b1, s1⟩, hr, he⟩ := fthen_some hrun
 have KP := Lib.hid (HP.out h0 hr)
 have HE := Lib.hid he
 clear hr h0 h hrun he
 go_enter Tryz.func146, Tryz.ntmps146
 go_wp2_with fail
 refine KP.out.mono ?_
 rintro e w1 ⟨x, A3, c3, p', hx, rfl, hp, hv, hpp, hrd⟩
 have HX := Lib.hid hx
 clear hx KP
 have hN1 : w.heap.size < w1.heap.size := by have := hp.size; simp at this; omega
 have hne1 : w1.heap.size ≠ g := by omega
 have hnn : w.heap.size ≠ w1.heap.size := by omega
 have P1 := (P0.trans hp).alloc (.cells (cellsF x A3 c3) 32)
 have B2 := (B2.past hp hne).alloc (.cells (cellsF x A3 c3) 32)
 have B3 := Own.new w1 (cellsF x A3 c3) 32
 have hv := hv.same ((Same.refl _ _).alloc (.cells (cellsF x A3 c3) 32))
 have hrd : Rf g A c b1 p' s1 _ := Rf.below hrd (zqb (Below.refl _ _) (.cells (cellsF x A3 c3) 32))
 have HPP := Lib.hid (show p' ++ s1 = p ++ s from hpp)
 clear hp hpp P0
 simp only [World.size_alloc] at hv
 cases hq : isL s1 mSet with
 | true =>
  have K := Lib.hid (rfTake_yes hrd hq)
  have e1 := HE.out
  rw [if_pos hq] at e1
  obtain ⟨u, ⟨b2, s2⟩, hr, he2⟩ := fthen_some e1
  have HR := Lib.hid hr
  have HE2 := Lib.hid he2
  clear hq hrd e1 hr he2 HE
  go_wp2_with fail
  refine K.out.mono ?_
  rintro e w2 ⟨rfl, hp, p1, hpp1, hrd⟩
  have P2 := P1.trans hp
  have B2 := B2.past hp hne
  have B3 := B3.past hp hne1
  have hN2 : w1.heap.size < w2.heap.size := by have := hp.size; simp at this; omega
  have hv := hv.same (Same.of_past hp (by omega))
  have q0 := B3.cell 0
  have q1 := B3.cell 1
  have q2 := B3.cell 2
  have q3 := B3.cell 3
  have HPP := Lib.hid (hpp1.trans HPP.out)
  have KP := Lib.hid (HO.out (Rf.below hrd (zqx (Below.refl _ _))) HR.out)
  have B2d : Own w2.drew w.heap.size zeroF 32 := B2
  have B3d : Own w2.drew w1.heap.size (cellsF x A3 c3) 32 := B3
  have P2d := P2.drew
  have hvd := hv.same ((Same.refl _ _).drew)
  clear hp hpp1 hrd K
  go_wp2_with fail
  go_region_held3 (fun w' => w'.cell? ⟨w1.heap.size, 0, none⟩ = some (.int .i64 x.f0) ∧ w'.cell? ⟨w1.heap.size, 1, none⟩ = some (.string x.f1) ∧ w'.cell? ⟨w1.heap.size, 2, none⟩ = some (.int .i64 x.f2) ∧ w'.cell? ⟨w1.heap.size, 3, none⟩ = some (.slice A3 x.f3.length c3)) (go_keep)
   ((first
    | (go_at_call 91; refine KP.out.mono ?_; rintro e w3 ⟨z, A4, c4, p2, hz, rfl, hp, hv2, hpp, hrd2⟩; have HZ := Lib.hid hz; clear hz; have B2e := B2d.past hp hne; have q0 := (B3d.past hp hne1).cell 0; have q1 := (B3d.past hp hne1).cell 1; have q2 := (B3d.past hp hne1).cell 2; have q3 := (B3d.past hp hne1).cell 3; have B2f := B2e.alloc (.cells #[.int .i64 x.f0, .string x.f1, .int .i64 x.f2, .slice A3 x.f3.length c3, .int .i64 z.f0, .string z.f1, .int .i64 z.f2, .slice A4 z.f3.length c4] 32); have B3f : Own _ _ (cellsF x A3 c3) _ := (B3d.past hp hne1).alloc (.cells #[.int .i64 x.f0, .string x.f1, .int .i64 x.f2, .slice A3 x.f3.length c3, .int .i64 z.f0, .string z.f1, .int .i64 z.f2, .slice A4 z.f3.length c4] 32); have D2f := Own.new w3 #[.int .i64 x.f0, .string x.f1, .int .i64 x.f2, .slice A3 x.f3.length c3, .int .i64 z.f0, .string z.f1, .int .i64 z.f2, .slice A4 z.f3.length c4] 32)
    | (go_at_call 93; refine (rfNode 11 ⟨#[]⟩ (some ⟨w3.heap.size, 0, none⟩) 2 2 _).mono ?_; rintro e w4 ⟨rfl, hb⟩; have B2g : Own w4 w.heap.size zeroF 32 := zqn B2f hb; have D2g := zqn D2f hb; have B3g : Own w4 w1.heap.size (cellsF x A3 c3) 32 := zqn B3f hb; have q0 := B3g.cell 0; have q1 := B3g.cell 1; have q2 := B3g.cell 2; have q3 := B3g.cell 3; have d0 := B2g.cell 0; have d1 := B2g.cell 1; have d2 := B2g.cell 2; have d3 := B2g.cell 3; have dz := fun i => B2g.fz i)))
  go_wp2_with fail
  refine ret4F rfl rfl (Own.four B2g) ?_
  have hN3 : w2.heap.size ≤ w3.heap.size := hp.size
  have hN4 : w3.heap.size < w4.heap.size := by have := hb.size; simp at this; omega
  have e1 := HE2.out
  injection e1 with e1
  injection e1 with e1 e2
  subst e1 e2
  refine OutF.ret HH.out (P2d.trans hp) (zqu (w3size := 0) ((zqz (by omega) _).trans (hb.mono (by simp; omega)))) (hpp.trans HPP.out) hrd2 ?_
  show TmF _ _ (tmR 11 noName [toR t, toR u]) _
  rw [← HX.out, ← HZ.out]
  exact (TmF.kids2 11 noName (hvd.same ((((Same.of_past hp (by omega)).alloc _).trans (Same.of_below hb)).trans (zqv (Same.refl _ _) (by omega)))) ((hv2.mono (by show w.heap.size + 1 ≤ w2.heap.size; omega)).same ((((Same.refl _ _).alloc _).trans (Same.of_below hb)).trans (zqv (Same.refl _ _) (by omega)))) (zqF D2g (by omega)) (by omega)).mono (by omega)
 | false =>
  have K := Lib.hid (rfTake_no hrd hq)
  have e1 := HE.out
  rw [if_neg (by simp [hq])] at e1
  have HE2 : Hid ((match opWords.find? (isL s1) with | some o => (frun k .parts (b1, s1.tail)).then_ fun u q => some (tm 12 o [t, u], q) | none => some (t, (b1, s1))) = some (tr, q')) := Lib.hid e1
  clear hq hrd e1 HE
  go_wp2_with fail
  refine K.out.mono ?_
  rintro e w2 ⟨rfl, hp, hrd⟩
  have hN2 : w1.heap.size < w2.heap.size := by have := hp.size; simp at this; omega
  have hne2 : w2.heap.size ≠ g := by omega
  have H0 := Lib.hid (PlF.mk (g := g) (A := A) (c := c) (b1 := b1) (p' := p') (s1 := s1) (w := w) (n1 := w1.heap.size) (n2 := w2.heap.size) (x := x) (A3 := A3) (c3 := c3) (i := 0) (wr := w2.alloc (.cells opCells 9))
   rfl (Rf.below hrd (zqb (Below.refl _ _) _)) ((P1.trans hp).alloc _) ((B2.past hp hne).alloc _) ((B3.past hp hne1).alloc _) (Own.new w2 _ _) ((hv.same (Same.of_past hp (by omega))).same ((Same.refl _ _).alloc _)))
  clear hp hrd P1 B2 B3 hv K
  go_wp2_with fail
  go_loopg [5] 5 (fun gk v5 wr => ∃ i : Nat, v5 = .int .i64 i ∧ i ≤ 5 ∧ gk = 5 - i ∧ PlF g A c b1 p' s1 w w1.heap.size w2.heap.size x A3 c3 i wr)
  case atStart => exact ⟨0, rfl, by omega, rfl, H0.out⟩
  case round =>
   obtain ⟨i, rfl, hi, hgk, H⟩ := hrel
   by_cases hlt : i < 5
   ·have hd : decide ((i : Int) < 5) = true := by rw [decide_eq_true_eq]; omega
    have hd0 : (0 ≤ (i : Int)) = True := eq_true (by omega)
    have hd1 : ((i : Int) < 5) = True := eq_true (by omega)
    have hol : i < opWords.length := hlt
    have hcell : wr.cell? ⟨w2.heap.size, i, none⟩ = some (.string opWords[i]) := by
     rw [H.b4.cell i]
     have hall : ∀ i (h : i < 5), opCells[i]? = some (.string (opWords[i]'h)) := by
      intro i h
      match i, h with
      | 0, _ => rfl
      | 1, _ => rfl
      | 2, _ => rfl
      | 3, _ => rfl
      | 4, _ => rfl
     exact hall i hlt
    cases hm : isL s1 opWords[i] with
    | false =>
     have K := Lib.hid (rfTake_no H.rd hm)
     have hf : (opWords.drop (i + 1)).find? (isL s1) = opWords.find? (isL s1) := by
      have := H.find
      rw [List.drop_eq_getElem_cons hol, List.find?_cons_of_neg (by simp [hm])] at this
      exact this
     have HF := Lib.hid hf
     have H1 := Lib.hid H
     clear H H0 hf hm
     generalize opWords[i] = o at *
     go_wp2_with fail
     refine K.out.mono ?_
     rintro e w3 ⟨rfl, hp, hrd⟩
     have HR1 := Lib.hid (PlF.mk HF.out hrd (H1.out.past.trans hp) (H1.out.b2.past hp hne) (H1.out.b3.past hp hne1) (H1.out.b4.past hp hne2) (H1.out.v.same (Same.of_past hp (by omega))))
     clear hp hrd K
     go_wp2_with fail
     go_roundg (5 - (i + 1))
     case measure => omega
     case rel => exact ⟨i + 1, by go_num, by omega, rfl, HR1.out⟩
    | true =>
     have hf : opWords.find? (isL s1) = some opWords[i] := by
      have := H.find
      rw [List.drop_eq_getElem_cons hol, List.find?_cons_of_pos hm] at this
      exact this.symm
     have e1 := HE2.out
     rw [hf] at e1
     obtain ⟨u, ⟨b2, s2⟩, hr, he2⟩ := fthen_some e1
     have HRR := Lib.hid hr
     have HE2 := Lib.hid he2
     have K := Lib.hid (rfTake_yes H.rd hm)
     have hci : opCells[i]? = some (.string opWords[i]) := (H.b4.cell i).symm.trans hcell
     have H1 := Lib.hid H
     clear H H0 hf hm e1 hr he2
     generalize opWords[i] = o at *
     go_wp2_with fail
     refine K.out.mono ?_
     rintro e w4 ⟨rfl, hp, p1, hpp1, hrd⟩
     have hw := H1.out.b4.lt
     have P2 := H1.out.past.trans hp
     have B2 := H1.out.b2.past hp hne
     have B3 := H1.out.b3.past hp hne1
     have B4 := H1.out.b4.past hp hne2
     have hNa : wr.heap.size ≤ w4.heap.size := hp.size
     have hv := H1.out.v.same (Same.of_past hp (by omega))
     have q0 := B3.cell 0
     have q1 := B3.cell 1
     have q2 := B3.cell 2
     have q3 := B3.cell 3
     have hcell := (B4.cell i).trans hci
     have HPP := Lib.hid (hpp1.trans HPP.out)
     have KP := Lib.hid (HP.out (Rf.below hrd (zqx (Below.refl _ _))) HRR.out)
     have B2d : Own w4.drew w.heap.size zeroF 32 := B2
     have B3d : Own w4.drew w1.heap.size (cellsF x A3 c3) 32 := B3
     have B4d : Own w4.drew w2.heap.size opCells 9 := B4
     have P2d := P2.drew
     have hvd := hv.same ((Same.refl _ _).drew)
     have hnn2 : w.heap.size ≠ w2.heap.size := by omega
     clear hp hpp1 hrd K
     go_wp2_with fail
     go_region_held3 (fun w' => w'.cell? ⟨w2.heap.size, i, none⟩ = some (.string o) ∧ w'.cell? ⟨w1.heap.size, 0, none⟩ = some (.int .i64 x.f0) ∧ w'.cell? ⟨w1.heap.size, 1, none⟩ = some (.string x.f1) ∧ w'.cell? ⟨w1.heap.size, 2, none⟩ = some (.int .i64 x.f2) ∧ w'.cell? ⟨w1.heap.size, 3, none⟩ = some (.slice A3 x.f3.length c3)) (go_keep)
      ((first
       | (go_at_call 181; refine KP.out.mono ?_; rintro e w5 ⟨z, A4, c4, p2, hz, rfl, hp, hv2, hpp, hrd2⟩; have HZ := Lib.hid hz; clear hz; have B2e := B2d.past hp hne; have B4e := B4d.past hp hne2; have hcell := (B4e.cell i).trans hci; have q0 := (B3d.past hp hne1).cell 0; have q1 := (B3d.past hp hne1).cell 1; have q2 := (B3d.past hp hne1).cell 2; have q3 := (B3d.past hp hne1).cell 3; have B2f := B2e.alloc (.cells #[.int .i64 x.f0, .string x.f1, .int .i64 x.f2, .slice A3 x.f3.length c3, .int .i64 z.f0, .string z.f1, .int .i64 z.f2, .slice A4 z.f3.length c4] 32); have B4f := B4e.alloc (.cells #[.int .i64 x.f0, .string x.f1, .int .i64 x.f2, .slice A3 x.f3.length c3, .int .i64 z.f0, .string z.f1, .int .i64 z.f2, .slice A4 z.f3.length c4] 32); have B3f : Own _ _ (cellsF x A3 c3) _ := (B3d.past hp hne1).alloc (.cells #[.int .i64 x.f0, .string x.f1, .int .i64 x.f2, .slice A3 x.f3.length c3, .int .i64 z.f0, .string z.f1, .int .i64 z.f2, .slice A4 z.f3.length c4] 32); have D2f := Own.new w5 #[.int .i64 x.f0, .string x.f1, .int .i64 x.f2, .slice A3 x.f3.length c3, .int .i64 z.f0, .string z.f1, .int .i64 z.f2, .slice A4 z.f3.length c4] 32)
       | (go_at_call 93; refine (rfNode 12 o (some ⟨w5.heap.size, 0, none⟩) 2 2 _).mono ?_; rintro e w6 ⟨rfl, hb⟩; have B2g : Own w6 w.heap.size zeroF 32 := zqn B2f hb; have D2g := zqn D2f hb; have B3g : Own w6 w1.heap.size (cellsF x A3 c3) 32 := zqn B3f hb; have q0 := B3g.cell 0; have q1 := B3g.cell 1; have q2 := B3g.cell 2; have q3 := B3g.cell 3; have B4g : Own w6 w2.heap.size opCells 9 := zqn B4f hb; have hcell := (B4g.cell i).trans hci; have d0 := B2g.cell 0; have d1 := B2g.cell 1; have d2 := B2g.cell 2; have d3 := B2g.cell 3; have dz := fun i => B2g.fz i)))
     go_wp2_with fail
     refine ret4F rfl rfl (Own.four B2g) ?_
     have hN3 : w4.heap.size ≤ w5.heap.size := hp.size
     have hN4 : w5.heap.size < w6.heap.size := by have := hb.size; simp at this; omega
     have e1 := HE2.out
     injection e1 with e1
     injection e1 with e1 e2
     subst e1 e2
     refine OutF.ret HH.out (P2d.trans hp) (zqu (w3size := 0) ((zqz (by omega) _).trans (hb.mono (by simp; omega)))) (hpp.trans HPP.out) hrd2 ?_
     show TmF _ _ (tmR 12 o [toR t, toR u]) _
     rw [← HX.out, ← HZ.out]
     exact (TmF.kids2 12 o (hvd.same ((((Same.of_past hp (by omega)).alloc _).trans (Same.of_below hb)).trans (zqv (Same.refl _ _) (by omega)))) ((hv2.mono (by show w.heap.size + 1 ≤ w4.heap.size; omega)).same ((((Same.refl _ _).alloc _).trans (Same.of_below hb)).trans (zqv (Same.refl _ _) (by omega)))) (zqF D2g (by omega)) (by omega)).mono (by omega)
   ·have hi5 : i = 5 := by omega
    subst hi5
    have hf : opWords.find? (isL s1) = none := H.find.symm
    have e1 := HE2.out
    rw [hf] at e1
    have HE3 := Lib.hid e1
    have hd : decide ((5 : Int) < 5) = false := by decide
    have d0 := H.b2.cell 0
    have d1 := H.b2.cell 1
    have d2 := H.b2.cell 2
    have d3 := H.b2.cell 3
    have dz := fun i => H.b2.fz i
    have q0 := H.b3.cell 0
    have q1 := H.b3.cell 1
    have q2 := H.b3.cell 2
    have q3 := H.b3.cell 3
    have H1 := Lib.hid H
    clear H H0 hf e1 HE2
    go_wp2_with fail
    refine ret4F rfl rfl (Own.four H1.out.b2) ?_
    have e1 := HE3.out
    injection e1 with e1
    injection e1 with e1 e2
    subst e1 e2
    exact OutF.ret HH.out H1.out.past (zqu (w3size := 0) (Below.refl _ _)) HPP.out H1.out.rd (HX.out ▸ (H1.out.v.same (zqv (Same.refl _ _) (by omega))).mono (by omega))
end Go.Proofs.YtchekgnacodolaaGreatDoor.X
end
section
namespace Go.Proofs.YtchekgnacodolaaGreatDoor.X
open Go.RowKit Go.Proofs.YtchekgnacodolaaGreatDoorW.PrintWords Go.Proofs.YtchekgnacodolaaGreatDoorW.PrintLast Go.Proofs.YtchekgnacodolaaGreatDoorW.PrintMore
set_option linter.unusedSimpArgs false
set_option linter.unusedVariables false
theorem rf_reads : ∀ k, RFH 199 .part k ∧ RFH 181 .parts k ∧ RFH 146 .plain k ∧ RFH 91 .one k ∧ RFH 55 .all k
 | 0 => by
  have z : ∀ f m, RFH f m 0 := fun f m _ _ _ _ _ _ _ _ _ h => by cases h
  exact ⟨z _ _, z _ _, z _ _, z _ _, z _ _⟩
 | k + 1 => by
  obtain ⟨h1, h2, h3, h4, h5⟩ := rf_reads k
  exact ⟨rf_part k h1 h5, rf_parts k h1, rf_plain k h2 h4, rf_one k h4 h5 h3, rf_all k h4 h5⟩
theorem rfE (g : Nat) (A : Option Addr) (c : Nat) (p s : List TokT) (w : World) (h : Rf g A c false p s w) :
  Calls Tryz.prog 55 #[.pointer (some ⟨g, 0, none⟩)] w fun e w' => ∃ t q, FRel (some (t, q)) (parseL s) ∧ OutF g A c p s w t q e w' := by
 have hf := frun_run _ _ _ _ (parseL_run s) (8 * s.length + 5 + 3) (Nat.le_refl _)
 cases hx : frun (8 * s.length + 5 + 3) .all (false, s) with
 | none =>
  rw [hx] at hf
  unfold FRel at hf
  split at hf
  ·cases hf
  ·obtain ⟨_, _, h⟩ := hf; cases h
 | some r =>
  obtain ⟨t, q⟩ := r
  refine ((rf_reads _).2.2.2.2 g A c p (false, s) w t q h hx).mono fun e w' ho => ⟨t, q, ?_, ho⟩
  rw [← hx]; exact hf
end Go.Proofs.YtchekgnacodolaaGreatDoor.X
end

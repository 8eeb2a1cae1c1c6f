-- Joined by our own program (wip/tools/prune.py) out of the seat's texts, less what this claim doesn't name.
import Derived.BigQuiet
import Derived.StillTailTactics
import Derived.Outline
import Derived.Test.YtchekgnacodolaaGreatDoorJ5
import Derived.Test.YtchekgnacodolaaGreatDoorJ6
import Derived.Test.YtchekgnacodolaaGreatDoorJ14
section
namespace Go.Proofs.YtchekgnacodolaaGreatDoor.X
open Go.RowKit Go.Proofs.YtchekgnacodolaaGreatDoorW.PrintWords Go.Proofs.YtchekgnacodolaaGreatDoorW.PrintLast Go.Proofs.YtchekgnacodolaaGreatDoorW.PrintMore
set_option linter.unusedSimpArgs false
set_option linter.unusedVariables false
set_option maxRecDepth 100000 in
set_option maxHeartbeats 400000 in
theorem peekC (g : Nat) (A : Option Addr) (c : Nat) (E : Value) (p s : List TokT) (w : World) (h : Rd g A c E p s w) :
    Calls Tryz.prog 198 #[.pointer (some ⟨g, 0, none⟩)] w fun e w' => e = .returned (.agg #[.int .i64 (peekL s).f0, .string (peekL s).f1, .int .i64 (peekL s).f2]) ∧ Below w.heap.size w w' := by
  have h0 := h.c0
  have h1 := h.c1
  have hlt := h.lt
  have hlen := h.len
  cases s with
  | nil =>
    have hd : decide ((p ++ []).length ≤ p.length) = true := by simp
    show Calls _ _ _ _ fun e w' => e = .returned (.agg #[.int .i64 0, .string ⟨#[]⟩, .int .i64 0]) ∧ _
    clear h
    rw [List.append_nil] at *
    go_enter Tryz.func198, Tryz.ntmps198
    go_wp2_with fail
    go_quiet (fail)
    go_wp2_with fail
    refine bodyPost_ret (v := tokV ⟨0, ⟨#[]⟩, 0⟩) (by simp [results, Tryz.results198, go_sem]) rfl ⟨rfl, ?_⟩
    exact (((pw_below_drewN (below_alloc (Below.refl _ _) _) _).setCell (Nat.le_refl _) _).setCell (Nat.le_refl _) _).setCell (Nat.le_refl _) _
  | cons x s =>
    obtain ⟨ad, rfl, k0, k1, k2⟩ := h.get
    have hd : decide ((p ++ x :: s).length ≤ p.length) = false := by simp
    have p1 : (0 ≤ (p.length : Int)) = True := eq_true (by omega)
    have p2 : ((p.length : Int) < ((p ++ x :: s).length : Int)) = True := eq_true (by simp; omega)
    show Calls _ _ _ _ fun e w' => e = .returned (.agg #[.int .i64 x.f0, .string x.f1, .int .i64 x.f2]) ∧ _
    have n0 := World.new_ne w _ h0
    have n1 := World.new_ne w _ k0
    have n2 := World.new_ne w _ k1
    have n3 := World.new_ne w _ k2
    clear h
    generalize (p ++ x :: s).length = n at *
    generalize p.length = i at *
    go_enter Tryz.func198, Tryz.ntmps198
    go_wp2_with fail
    go_quiet (fail)
    go_wp2_with fail
    go_region_held3 (fun w' => w'.cell? ⟨g, 0, none⟩ = some (.slice (some ad) n c) ∧ w'.cell? ⟨g, 1, none⟩ = some (.int .i64 (i : Int)) ∧ w'.cell? (ad.add (i * 3)) = some (.int .i64 x.f0) ∧ w'.cell? ⟨(ad.add (i * 3)).block, (ad.add (i * 3)).off + 1, none⟩ = some (.string x.f1) ∧ w'.cell? ⟨(ad.add (i * 3)).block, (ad.add (i * 3)).off + 2, none⟩ = some (.int .i64 x.f2)) (go_keep) (fail)
    go_wp2_with fail
    refine bodyPost_ret (v := tokV x) (by simp [results, Tryz.results198, go_sem]) rfl ⟨rfl, ?_⟩
    exact (((pw_below_drewN (below_alloc (Below.refl _ _) _) _).setCell (Nat.le_refl _) _).setCell (Nat.le_refl _) _).setCell (Nat.le_refl _) _
theorem field0 (a : Int) (b : ByteArray) (n : Int) (w : World) : (Instr.field 106 (.agg #[.int .i64 a, .string b, .int .i64 n]) 0).run Tryz.prog w = .ok (.int .i64 a) w := by kernel_rfl
theorem field1 (a : Int) (b : ByteArray) (n : Int) (w : World) : (Instr.field 106 (.agg #[.int .i64 a, .string b, .int .i64 n]) 1).run Tryz.prog w = .ok (.string b) w := by kernel_rfl
set_option maxRecDepth 100000 in
set_option maxHeartbeats 400000 in
theorem isC (m : ByteArray) (g : Nat) (A : Option Addr) (c : Nat) (E : Value) (p s : List TokT) (w : World) (h : Rd g A c E p s w) :
    Calls Tryz.prog 178 #[.pointer (some ⟨g, 0, none⟩), .string m] w fun e w' => e = .returned (.bool (isL s m)) ∧ Below w.heap.size w w' := by
  have H := Lib.hid h
  clear h
  obtain ⟨t, ht⟩ : ∃ t, peekL s = t := ⟨_, rfl⟩
  have hfin : Hid (isL s m = (decide (3 ≤ t.f0) && (t.f1.toList == m.toList))) := Lib.hid (by unfold isL; rw [ht, ByteArray.toList_eq, ByteArray.toList_eq])
  have K := fun W (h : Rd g A c E p s W) => peekC g A c E p s W h
  rw [ht] at K
  have HK := Lib.hid K
  clear K ht
  have hf0 := field0
  have hf1 := field1
  by_cases h3 : 3 ≤ t.f0
  · have hd : decide (3 ≤ t.f0) = true := by simpa using h3
    go_enter Tryz.func178, Tryz.ntmps178
    go_wp2_with fail
    refine (HK.out _ H.out).mono ?_
    rintro e w1 ⟨rfl, hb⟩
    have HB := Lib.hid hb
    clear hb
    go_wp2_with fail
    refine (HK.out _ (H.out.below HB.out)).mono ?_
    rintro e w2 ⟨rfl, hb⟩
    have HB2 := Lib.hid (below_step HB.out hb)
    clear hb
    go_wp2_with fail
    go_ret
    exact ⟨by rw [hfin.out]; simp [hd], HB2.out⟩
  · have hd : decide (3 ≤ t.f0) = false := by simpa using h3
    go_enter Tryz.func178, Tryz.ntmps178
    go_wp2_with fail
    refine (HK.out _ H.out).mono ?_
    rintro e w1 ⟨rfl, hb⟩
    have HB := Lib.hid hb
    clear hb
    go_wp2_with fail
    go_ret
    exact ⟨by rw [hfin.out, hd]; rfl, HB.out⟩
theorem takeC (m : ByteArray) (g : Nat) (A : Option Addr) (c : Nat) (E : Value) (p s : List TokT) (w : World) (h : Rd g A c E p s w) :
    Calls Tryz.prog 132 #[.pointer (some ⟨g, 0, none⟩), .string m] w fun e w' => Took g A c E p s w (isL s m) e w' := by
  have HK := Lib.hid (isC m g A c E p s w h)
  have H := Lib.hid h
  have hlen := h.len
  have hlt := h.lt
  clear h
  cases hb : isL s m with
  | false =>
    rw [hb] at HK
    clear hb
    go_enter Tryz.func132, Tryz.ntmps132
    go_wp2_with fail
    refine HK.out.mono ?_
    rintro e w1 ⟨rfl, hb⟩
    have HB := Lib.hid hb
    clear hb
    go_wp2_with fail
    go_ret
    exact ⟨rfl, Past.of_below HB.out, fun _ => H.out.below HB.out, (fun h => by cases h)⟩
  | true =>
    obtain ⟨x, r, rfl⟩ := isL_ne hb
    rw [hb] at HK
    clear hb
    have hp : (p.length : Int) + 1 ≤ 9223372036854775807 := by simp at hlen; omega
    have hp0 : (0 : Int) ≤ (p.length : Int) := by omega
    go_enter Tryz.func132, Tryz.ntmps132
    go_wp2_with fail
    refine HK.out.mono ?_
    rintro e w1 ⟨rfl, hb⟩
    have H1 := Lib.hid (H.out.below hb)
    have c1 := (H.out.below hb).c1
    have f1 := (H.out.below hb).fz 1
    have HB := Lib.hid hb
    clear hb
    go_wp2_with fail
    go_ret
    exact ⟨rfl, (Past.of_below HB.out).set 1 _, (fun h => by cases h), fun _ => ⟨x, r, rfl, H1.out.step⟩⟩
set_option maxRecDepth 100000 in
set_option maxHeartbeats 400000 in
theorem failC (g : Nat) (A : Option Addr) (c : Nat) (E : Value) (p s : List TokT) (w : World) (h : Rd g A c E p s w) :
    Calls Tryz.prog 87 #[.pointer (some ⟨g, 0, none⟩)] w fun e w' => Fails g E w e w' := by
  have H := Lib.hid h
  have c1 := h.c1
  have err := h.err
  obtain ⟨te, ve, rfl⟩ := h.ei
  have n0 := World.new_ne w _ c1
  have n1 := World.new_ne w _ err
  clear h
  go_enter Tryz.func87, Tryz.ntmps87
  go_wp2_with fail
  go_still_tail 6, (by kernel_rfl)
  change wpList _ _ _ _ _ w.drew
  go_wp2_with fail
  refine ⟨rfl, ?_⟩
  exact ⟨Past.of_below (below_drew (below_alloc (Below.refl _ _) _)), _, _, rfl, blk_drew (blk_new _ _)⟩
theorem must_yes (m : ByteArray) (g : Nat) (A : Option Addr) (c : Nat) (E : Value) (p : List TokT) (x : TokT) (r : List TokT) (w : World) (h : Rd g A c E p (x :: r) w) (hm : isL (x :: r) m = true) :
    Calls Tryz.prog 196 #[.pointer (some ⟨g, 0, none⟩), .string m] w fun e w' => e = .returned (.tuple #[]) ∧ Past g w w' ∧ Rd g A c E (p ++ [x]) r w' := by
  have HK := Lib.hid (takeC m g A c E p (x :: r) w h)
  rw [hm] at HK
  clear h hm
  go_enter Tryz.func196, Tryz.ntmps196
  go_wp2_with fail
  refine HK.out.mono ?_
  rintro e w1 ⟨rfl, hp, -, h1⟩
  obtain ⟨y, q, e, hr⟩ := h1 rfl
  injection e with e1 e2
  subst e1 e2
  have HP := Lib.hid hp
  have HR := Lib.hid hr
  clear hp hr h1
  go_wp2_with fail
  go_end0
  exact ⟨rfl, HP.out, HR.out⟩
theorem must_no (m : ByteArray) (g : Nat) (A : Option Addr) (c : Nat) (E : Value) (p s : List TokT) (w : World) (h : Rd g A c E p s w) (hm : isL s m = false) :
    Calls Tryz.prog 196 #[.pointer (some ⟨g, 0, none⟩), .string m] w fun e w' => Fails g E w e w' := by
  have HK := Lib.hid (takeC m g A c E p s w h)
  rw [hm] at HK
  clear h hm
  go_enter Tryz.func196, Tryz.ntmps196
  go_wp2_with fail
  refine HK.out.mono ?_
  rintro e w1 ⟨rfl, hp, h1, -⟩
  have HR := Lib.hid (h1 rfl)
  have HP := Lib.hid hp
  clear hp h1
  go_wp2_with fail
  refine (failC g A c E p s _ HR.out).mono ?_
  rintro e w2 ⟨hp2, b, n, rfl, hb⟩
  have HP2 := Lib.hid (HP.out.trans hp2)
  have HB := Lib.hid hb
  clear hp2 hb
  go_wp2_with fail
  exact ⟨rfl, HP2.out, _, _, rfl, HB.out⟩
theorem name_yes (g : Nat) (A : Option Addr) (c : Nat) (E : Value) (p : List TokT) (x : TokT) (r : List TokT) (w : World) (h : Rd g A c E p (x :: r) w) (hx : x.f0 = 1) :
    Calls Tryz.prog 195 #[.pointer (some ⟨g, 0, none⟩)] w fun e w' => e = .returned (.string x.f1) ∧ Past g w w' ∧ Rd g A c E (p ++ [x]) r w' := by
  have HK := Lib.hid (peekC g A c E p (x :: r) w h)
  have hlen := h.len
  have hp : (p.length : Int) + 1 ≤ 9223372036854775807 := by simp at hlen; omega
  have hp0 : (0 : Int) ≤ (p.length : Int) := by omega
  rw [show peekL (x :: r) = x from rfl, hx] at HK
  have H := Lib.hid h
  clear h hx hlen
  go_enter Tryz.func195, Tryz.ntmps195
  go_wp2_with fail
  refine HK.out.mono ?_
  rintro e w1 ⟨rfl, hb⟩
  have h1 := H.out.below hb
  have H1 := Lib.hid h1
  have c1 := h1.c1
  have f1 := h1.fz 1
  have n0 := World.new_ne w1 _ c1
  have hlt := h1.lt
  have HB := Lib.hid hb
  clear hb h1
  go_wp2_with fail
  go_ret
  exact ⟨rfl, ((Past.of_below HB.out).set 1 _).alloc _, H1.out.step.below (below_alloc (Below.refl _ _) _)⟩
theorem name_no (g : Nat) (A : Option Addr) (c : Nat) (E : Value) (p s : List TokT) (w : World) (h : Rd g A c E p s w) (hx : (peekL s).f0 ≠ 1) :
    Calls Tryz.prog 195 #[.pointer (some ⟨g, 0, none⟩)] w fun e w' => Fails g E w e w' := by
  have HK := Lib.hid (peekC g A c E p s w h)
  have hb1 : ((peekL s).f0 != 1) = true := by simpa using hx
  have H := Lib.hid h
  clear h hx
  generalize peekL s = x at *
  go_enter Tryz.func195, Tryz.ntmps195
  go_wp2_with fail
  refine HK.out.mono ?_
  rintro e w1 ⟨rfl, hb⟩
  have HB := Lib.hid (below_alloc hb (.cells #[.int .i64 x.f0, .string x.f1, .int .i64 x.f2] 106))
  clear hb
  go_wp2_with fail
  refine (failC g A c E p s _ (H.out.below HB.out)).mono ?_
  rintro e w2 ⟨hp2, b, n, rfl, hb⟩
  have HP2 := Lib.hid ((Past.of_below HB.out).trans hp2)
  have HB2 := Lib.hid hb
  clear hp2 hb
  go_wp2_with fail
  exact ⟨rfl, HP2.out, _, _, rfl, HB2.out⟩
theorem beginsC (g : Nat) (A : Option Addr) (c : Nat) (E : Value) (p s : List TokT) (w : World) (h : Rd g A c E p s w) :
    Calls Tryz.prog 216 #[.pointer (some ⟨g, 0, none⟩)] w fun e w' => e = .returned (.bool (beginsL s)) ∧ Below w.heap.size w w' := by
  have HP := Lib.hid (peekC g A c E p s w h)
  have HI := Lib.hid (fun m W (h : Rd g A c E p s W) => isC m g A c E p s W h)
  have H := Lib.hid h
  clear h
  obtain ⟨x, hx⟩ : ∃ x, (peekL s).f0 = x := ⟨_, rfl⟩
  have hfin : Hid (beginsL s = (decide (x = 1) || (decide (x = 2) || (isL s ⟨#[40]⟩ || isL s ⟨#[33]⟩)))) := Lib.hid (by unfold beginsL; rw [hx])
  rw [hx] at HP
  clear hx
  have hf0 := field0
  by_cases h1 : x = 1
  · have e1 : (x == 1) = true := by simpa using h1
    have HF := Lib.hid h1
    clear h1
    go_enter Tryz.func216, Tryz.ntmps216
    go_wp2_with fail
    refine HP.out.mono ?_
    rintro e w1 ⟨rfl, hb⟩
    have HB := Lib.hid hb
    clear hb
    go_wp2_with fail
    go_ret
    exact ⟨by rw [hfin.out, HF.out]; rfl, HB.out⟩
  · have e1 : (x == 1) = false := by simpa using h1
    have HF := Lib.hid h1
    clear h1
    by_cases h2 : x = 2
    · have e2 : (x == 2) = true := by simpa using h2
      have HF2 := Lib.hid h2
      clear h2
      go_enter Tryz.func216, Tryz.ntmps216
      go_wp2_with fail
      refine HP.out.mono ?_
      rintro e w1 ⟨rfl, hb⟩
      have HB := Lib.hid hb
      clear hb
      go_wp2_with fail
      go_ret
      exact ⟨by rw [hfin.out, HF2.out]; rfl, HB.out⟩
    · have e2 : (x == 2) = false := by simpa using h2
      have HF2 := Lib.hid h2
      clear h2
      have hfin2 : Hid (beginsL s = (isL s ⟨#[40]⟩ || isL s ⟨#[33]⟩)) := Lib.hid (by rw [hfin.out, decide_eq_false HF.out, decide_eq_false HF2.out]; rfl)
      generalize hm1 : isL s ⟨#[40]⟩ = b1 at hfin2
      generalize hm2 : isL s ⟨#[33]⟩ = b2 at hfin2
      have M1 := Lib.hid hm1
      have M2 := Lib.hid hm2
      clear hm1 hm2
      cases b1 with
      | true =>
        go_enter Tryz.func216, Tryz.ntmps216
        go_wp2_with fail
        refine HP.out.mono ?_
        rintro e w1 ⟨rfl, hb⟩
        have HB := Lib.hid hb
        clear hb
        go_wp2_with fail
        refine (HI.out _ _ (H.out.below HB.out)).mono ?_
        rw [M1.out]
        rintro e w2 ⟨rfl, hb⟩
        have HB2 := Lib.hid (below_step HB.out hb)
        clear hb
        go_wp2_with fail
        go_ret
        exact ⟨by rw [hfin2.out]; rfl, HB2.out⟩
      | false =>
        go_enter Tryz.func216, Tryz.ntmps216
        go_wp2_with fail
        refine HP.out.mono ?_
        rintro e w1 ⟨rfl, hb⟩
        have HB := Lib.hid hb
        clear hb
        go_wp2_with fail
        refine (HI.out _ _ (H.out.below HB.out)).mono ?_
        rw [M1.out]
        rintro e w2 ⟨rfl, hb⟩
        have HB2 := Lib.hid (below_step HB.out hb)
        clear hb
        go_wp2_with fail
        refine (HI.out _ _ (H.out.below HB2.out)).mono ?_
        rw [M2.out]
        rintro e w3 ⟨rfl, hb⟩
        have HB3 := Lib.hid (below_step HB2.out hb)
        clear hb
        go_wp2_with fail
        go_ret
        exact ⟨by rw [hfin2.out]; rfl, HB3.out⟩
theorem bound_yes (m : ByteArray) (g : Nat) (A : Option Addr) (c : Nat) (E : Value) (p : List TokT) (x y : TokT) (r : List TokT) (w : World) (h : Rd g A c E p (x :: y :: r) w) (hx : x.f0 = 1) (hm : isL (y :: r) m = true) :
    Calls Tryz.prog 175 #[.pointer (some ⟨g, 0, none⟩), .string m] w fun e w' => e = .returned (.string x.f1) ∧ Past g w w' ∧ Rd g A c E (p ++ [x] ++ [y]) r w' := by
  have HK := Lib.hid (name_yes g A c E p x (y :: r) w h hx)
  have HM := Lib.hid (fun W (h : Rd g A c E (p ++ [x]) (y :: r) W) => must_yes m g A c E (p ++ [x]) y r W h hm)
  clear h hx hm
  go_enter Tryz.func175, Tryz.ntmps175
  go_wp2_with fail
  refine HK.out.mono ?_
  rintro e w1 ⟨rfl, hp, hr⟩
  have HP := Lib.hid hp
  have HR := Lib.hid hr
  clear hp hr
  go_wp2_with fail
  refine (HM.out _ HR.out).mono ?_
  rintro e w2 ⟨rfl, hp, hr⟩
  have HP2 := Lib.hid (HP.out.trans hp)
  have HR2 := Lib.hid hr
  clear hp hr
  go_wp2_with fail
  go_ret
  exact ⟨rfl, HP2.out, HR2.out⟩
theorem bound_no (m : ByteArray) (g : Nat) (A : Option Addr) (c : Nat) (E : Value) (p s : List TokT) (w : World) (h : Rd g A c E p s w) (hb : boundL s m = none) :
    Calls Tryz.prog 175 #[.pointer (some ⟨g, 0, none⟩), .string m] w fun e w' => Fails g E w e w' := by
  by_cases hx : (peekL s).f0 = 1
  · obtain ⟨x, r, rfl⟩ := peek_ne (s := s) (by rw [hx]; decide)
    have hm : isL r m = false := by
      unfold boundL at hb
      rw [if_pos hx] at hb
      cases hq : isL r m with
      | false => rfl
      | true => rw [if_pos (by exact hq)] at hb; cases hb
    have HK := Lib.hid (name_yes g A c E p x r w h hx)
    have HM := Lib.hid (fun W (h : Rd g A c E (p ++ [x]) r W) => must_no m g A c E (p ++ [x]) r W h hm)
    clear h hx hm hb
    go_enter Tryz.func175, Tryz.ntmps175
    go_wp2_with fail
    refine HK.out.mono ?_
    rintro e w1 ⟨rfl, hp, hr⟩
    have HP := Lib.hid hp
    have HR := Lib.hid hr
    clear hp hr
    go_wp2_with fail
    refine (HM.out _ HR.out).mono ?_
    rintro e w2 ⟨hp2, b, n, rfl, hb⟩
    have HP2 := Lib.hid (HP.out.trans hp2)
    have HB2 := Lib.hid hb
    clear hp2 hb
    go_wp2_with fail
    exact ⟨rfl, HP2.out, _, _, rfl, HB2.out⟩
  · have HK := Lib.hid (name_no g A c E p s w h hx)
    clear h hx hb
    go_enter Tryz.func175, Tryz.ntmps175
    go_wp2_with fail
    refine HK.out.mono ?_
    rintro e w2 ⟨hp2, b, n, rfl, hb⟩
    have HP2 := Lib.hid hp2
    have HB2 := Lib.hid hb
    clear hp2 hb
    go_wp2_with fail
    exact ⟨rfl, HP2.out, _, _, rfl, HB2.out⟩
end Go.Proofs.YtchekgnacodolaaGreatDoor.X
end
section
namespace Go.Proofs.YtchekgnacodolaaGreatDoor.X
open Go.RowKit Go.Proofs.YtchekgnacodolaaGreatDoorW.PrintWords Go.Proofs.YtchekgnacodolaaGreatDoorW.PrintLast Go.Proofs.YtchekgnacodolaaGreatDoorW.PrintMore
set_option linter.unusedSimpArgs false
set_option linter.unusedVariables false
def RH (f : FuncId) (m : Mode) (k : Nat) : Prop := ∀ (g : Nat) (A : Option Addr) (c : Nat) (E : Value) (p s : List TokT) (w : World) (res : Option (Tm × List TokT)), Rd g A c E p s w → run k m s = some res →
  Calls Tryz.prog f #[.pointer (some ⟨g, 0, none⟩)] w fun e w' => Out g A c E p s w res e w'
theorem RH.some {f : FuncId} {m : Mode} {k : Nat} (h : RH f m k) {g : Nat} {A : Option Addr} {c : Nat} {E : Value} {p s s' : List TokT} {t : Tm} {w : World} (hr : Rd g A c E p s w) (e : run k m s = .some (.some (t, s'))) :
    Calls Tryz.prog f #[.pointer (.some ⟨g, 0, none⟩)] w fun e w' => ∃ A3 c3 p', e = .returned (.agg #[.int .i64 t.f0, .string t.f1, .int .i64 t.f2, .slice A3 t.f3.length c3]) ∧ Past g w w' ∧ TmV w.heap.size w' t (.agg #[.int .i64 t.f0, .string t.f1, .int .i64 t.f2, .slice A3 t.f3.length c3]) ∧ p' ++ s' = p ++ s ∧ Rd g A c E p' s' w' := by
  refine (h g A c E p s w _ hr e).mono ?_
  rintro e w' ⟨hp, v, p', rfl, hv, he, hr'⟩
  obtain ⟨A3, c3, rfl, hl, hC⟩ := hv
  exact ⟨A3, c3, p', rfl, hp, ⟨A3, c3, rfl, hl, hC⟩, he, hr'⟩
theorem RH.none {f : FuncId} {m : Mode} {k : Nat} (h : RH f m k) {g : Nat} {A : Option Addr} {c : Nat} {E : Value} {p s : List TokT} {w : World} (hr : Rd g A c E p s w) (e : run k m s = .some .none) :
    Calls Tryz.prog f #[.pointer (.some ⟨g, 0, Option.none⟩)] w fun e w' => Fails g E w e w' := h g A c E p s w _ hr e
def Own (w : World) (b : Nat) (cs : Array Value) (T : TypeId) : Prop := w.heap[b]? = some (.cells cs T (0, 0))
theorem Own.past {g b : Nat} {w w1 : World} {cs : Array Value} {T : TypeId} (h : Own w b cs T) (hp : Past g w w1) (hg : b ≠ g) : Own w1 b cs T := blk_past h hp hg
theorem Own.alloc {b : Nat} {w : World} {cs : Array Value} {T : TypeId} (h : Own w b cs T) (o : Obj) : Own (w.alloc o) b cs T := blk_alloc h o
theorem Own.new (w : World) (cs : Array Value) (T : TypeId) : Own (w.alloc (.cells cs T)) w.heap.size cs T := blk_new w _
theorem Own.cell {b : Nat} {w : World} {cs : Array Value} {T : TypeId} (h : Own w b cs T) (i : Nat) : w.cell? ⟨b, i, none⟩ = cs[i]? := blk_cell h i
theorem Own.fz {b : Nat} {w : World} {cs : Array Value} {T : TypeId} (h : Own w b cs T) (i : Nat) : w.frozen? ⟨b, i, none⟩ = false := blk_frozen h i
theorem Own.lt {b : Nat} {w : World} {cs : Array Value} {T : TypeId} (h : Own w b cs T) : b < w.heap.size := blk_lt h
theorem take_yes (m : ByteArray) {g : Nat} {A : Option Addr} {c : Nat} {E : Value} {p s : List TokT} {w : World} (h : Rd g A c E p s w) (hm : isL s m = true) :
    Calls Tryz.prog 132 #[.pointer (some ⟨g, 0, none⟩), .string m] w fun e w' => e = .returned (.bool true) ∧ Past g w w' ∧ ∃ x, s = x :: s.tail ∧ Rd g A c E (p ++ [x]) s.tail w' := by
  refine (takeC m g A c E p s w h).mono ?_
  rw [hm]
  rintro e w' ⟨rfl, hp, -, hy⟩
  obtain ⟨x, r, rfl, hr⟩ := hy rfl
  exact ⟨rfl, hp, x, rfl, hr⟩
theorem take_no (m : ByteArray) {g : Nat} {A : Option Addr} {c : Nat} {E : Value} {p s : List TokT} {w : World} (h : Rd g A c E p s w) (hm : isL s m = false) :
    Calls Tryz.prog 132 #[.pointer (some ⟨g, 0, none⟩), .string m] w fun e w' => e = .returned (.bool false) ∧ Past g w w' ∧ Rd g A c E p s w' := by
  refine (takeC m g A c E p s w h).mono ?_
  rw [hm]
  rintro e w' ⟨rfl, hp, hn, -⟩
  exact ⟨rfl, hp, hn rfl⟩
theorem then_some {r : PR} {f : Tm → List TokT → PR} {res : Option (Tm × List TokT)} (h : r.then_ f = some res) : (r = some none ∧ res = none) ∨ ∃ t s, r = some (some (t, s)) ∧ f t s = some res := by
  cases r with
  | none => cases h
  | some x =>
    cases x with
    | none => exact .inl ⟨rfl, (Option.some.inj h).symm⟩
    | some p => exact .inr ⟨p.1, p.2, rfl, h⟩
theorem key_some {r : PR} {m : ByteArray} {f : Tm → List TokT → PR} {res : Option (Tm × List TokT)} (h : r.key m f = some res) : (r = some none ∧ res = none) ∨ (∃ t s, r = some (some (t, s)) ∧ isL s m = false ∧ res = none) ∨ ∃ t s, r = some (some (t, s)) ∧ isL s m = true ∧ f t s.tail = some res := by
  rcases then_some h with h | ⟨t, s, e, h⟩
  · exact .inl h
  · by_cases hm : isL s m = true
    · rw [if_pos hm] at h; exact .inr (.inr ⟨t, s, e, hm, h⟩)
    · rw [if_neg hm] at h; exact .inr (.inl ⟨t, s, e, by simpa using hm, (Option.some.inj h).symm⟩)
theorem run_part (k : Nat) (s : List TokT) : run (k + 1) .part s = if isL s mGet = true then (run k .part s.tail).then_ fun t s => PR.ret (tm 10 noName [t]) s
    else if isL s mOpen = true then (run k .all s.tail).key mClose PR.ret
    else if (peekL s).f0 = 1 then PR.ret (tm 2 (peekL s).f1 []) s.tail
    else if (peekL s).f0 = 2 then PR.ret ⟨1, noName, (peekL s).f2, []⟩ s.tail
    else some none := rfl
abbrev zeroV : Array Value := #[.int .i64 0, .string ⟨#[]⟩, .int .i64 0, .slice none 0 0]
theorem four_set {N w3size : Nat} {w w' : World} {a b c d : Value} (h : Below N w w') : Below N w ((((w'.setCell ⟨N, 0, none⟩ a).setCell ⟨N, 1, none⟩ b).setCell ⟨N, 2, none⟩ c).setCell ⟨N, 3, none⟩ d) :=
  (((h.setCell (Nat.le_refl _) _).setCell (Nat.le_refl _) _).setCell (Nat.le_refl _) _).setCell (Nat.le_refl _) _
theorem four_same {base N : Nat} {w w' : World} {a b c d : Value} (h : Same base w w') (hN : N < base) : Same base w ((((w'.setCell ⟨N, 0, none⟩ a).setCell ⟨N, 1, none⟩ b).setCell ⟨N, 2, none⟩ c).setCell ⟨N, 3, none⟩ d) :=
  (((h.set hN _).set hN _).set hN _).set hN _
theorem four_far {N g : Nat} {w' : World} {o : Obj} {a b c d : Value} (h : w'.heap[g]? = some o) (hN : g ≠ N) : ((((w'.setCell ⟨N, 0, none⟩ a).setCell ⟨N, 1, none⟩ b).setCell ⟨N, 2, none⟩ c).setCell ⟨N, 3, none⟩ d).heap[g]? = some o :=
  (Below.heap_setCell _ _ _ g hN).trans ((Below.heap_setCell _ _ _ g hN).trans ((Below.heap_setCell _ _ _ g hN).trans ((Below.heap_setCell _ _ _ g hN).trans h)))
theorem Own.four {N : Nat} {w : World} {x0 x1 x2 x3 a b c d : Value} {T : TypeId} (h : Own w N #[x0, x1, x2, x3] T) : Own ((((w.setCell ⟨N, 0, none⟩ a).setCell ⟨N, 1, none⟩ b).setCell ⟨N, 2, none⟩ c).setCell ⟨N, 3, none⟩ d) N #[a, b, c, d] T := by
  have := blk_set (blk_set (blk_set (blk_set h 0 a) 1 b) 2 c) 3 d
  simpa [Own] using this
theorem ret4 {fn : Func} {p N : Nat} {tmps : Array Value} {w : World} {a b c d : Value} {R : Ending → World → Prop} (h : fn.results = #[.cell p 26]) (hp : tmps.getD p undef = .pointer (some ⟨N, 0, none⟩)) (hb : Own w N #[a, b, c, d] 26) (hR : R (.returned (.agg #[a, b, c, d])) w) : bodyPost Tryz.prog fn R Exit.ret { tmps := tmps, defers := [] } w :=
  bodyPost_ret (results_cell_row h tmps w N 26 #[a, b, c, d] (0, 0) _ hp hb Tryz.underlying26 rfl (by kernel_rfl)) rfl hR
theorem belowN_alloc {N : Nat} {w : World} (h : N ≤ w.heap.size) (o : Obj) : Below N w (w.alloc o) := (Below.refl _ _).alloc h _
set_option maxRecDepth 100000 in
set_option maxHeartbeats 4000000 in
theorem part_step (k : Nat) (HP : RH 215 .part k) (HA : RH 86 .all k) : RH 215 .part (k + 1) := by
  intro g A c E p s w res h hrun
  rw [run_part] at hrun
  have HR := Lib.hid hrun
  have h0 := h.below (below_alloc (Below.refl _ _) (.cells zeroV 26))
  have hlt := h.lt
  have hne : w.heap.size ≠ g := by omega
  have HH := Lib.hid h
  clear hrun h
  go_enter Tryz.func215, Tryz.ntmps215
  go_wp2_with fail
  refine (peekC g A c E p s _ h0).mono ?_
  rintro e w1 ⟨rfl, hb⟩
  obtain ⟨x, hx⟩ : ∃ x, peekL s = x := ⟨_, rfl⟩
  rw [hx]
  have HX := Lib.hid hx
  have h1 := h0.below hb
  have hne3 : w1.heap.size ≠ g := by have := h1.lt; omega
  have hN1 : w.heap.size < w1.heap.size := by have := hb.size; simp at this; omega
  have h2 := h1.below (below_alloc (Below.refl _ _) (.cells #[.int .i64 x.f0, .string x.f1, .int .i64 x.f2] 106))
  have P2 : Past g w (w1.alloc (.cells #[.int .i64 x.f0, .string x.f1, .int .i64 x.f2] 106)) := ((Past.of_below (below_alloc (Below.refl _ _) _)).trans (Past.of_below hb)).alloc _
  have B2 := ((Own.new w zeroV 26).past (Past.of_below (g := g) hb) hne).alloc (.cells #[.int .i64 x.f0, .string x.f1, .int .i64 x.f2] 106)
  have B3 := Own.new w1 #[.int .i64 x.f0, .string x.f1, .int .i64 x.f2] 106
  clear hx hb h1 h0
  cases hq : isL s mGet with
  | true =>
    have K := Lib.hid (take_yes mGet h2 hq)
    rw [hq, if_pos rfl] at HR
    clear hq h2
    go_wp2_with fail
    refine K.out.mono ?_
    rintro e w2 ⟨rfl, hp, y, hs, h3⟩
    have HS := Lib.hid hs
    have C2 := B2.past hp hne
    have hN2 : w1.heap.size < w2.heap.size := by have := hp.size; simp at this; omega
    have P3 := P2.trans hp
    clear hs hp
    rcases then_some HR.out with ⟨hr, rfl⟩ | ⟨t, s', hr, he⟩
    · have KP := Lib.hid (HP.none h3 hr)
      clear hr h3
      go_wp2_with fail
      refine KP.out.mono ?_
      rintro e w3 ⟨hp, b, n, rfl, hb⟩
      have P4 := P3.trans hp
      have HB := Lib.hid hb
      clear hp hb
      go_wp2_with fail
      exact ⟨rfl, P4, _, _, rfl, HB.out⟩
    · have KP := Lib.hid (HP.some h3 hr)
      have HE := Lib.hid he
      clear hr h3 he
      go_wp2_with fail
      refine KP.out.mono ?_
      rintro e w3 ⟨A3, c3, p', rfl, hp, hv, hpp, hrd⟩
      have P4 := P3.trans hp
      have D2 := C2.past hp hne
      have HPP := Lib.hid hpp
      have hN3 : w2.heap.size ≤ w3.heap.size := hp.size
      have d0 := (D2.alloc (.cells #[.int .i64 t.f0, .string t.f1, .int .i64 t.f2, .slice A3 t.f3.length c3] 26)).cell 0
      have d1 := (D2.alloc (.cells #[.int .i64 t.f0, .string t.f1, .int .i64 t.f2, .slice A3 t.f3.length c3] 26)).cell 1
      have d2 := (D2.alloc (.cells #[.int .i64 t.f0, .string t.f1, .int .i64 t.f2, .slice A3 t.f3.length c3] 26)).cell 2
      have d3 := (D2.alloc (.cells #[.int .i64 t.f0, .string t.f1, .int .i64 t.f2, .slice A3 t.f3.length c3] 26)).cell 3
      have dz := fun i => (D2.alloc (.cells #[.int .i64 t.f0, .string t.f1, .int .i64 t.f2, .slice A3 t.f3.length c3] 26)).fz i
      clear hp hpp
      go_wp2_with fail
      refine ret4 rfl rfl (Own.four (D2.alloc _)) ?_
      have e1 := HE.out
      injection e1 with e1
      subst e1
      exact Out.ret HH.out P4 (four_set (w3size := 0) (belowN_alloc (by omega) _)) (by rw [HPP.out, HS.out]; simp) hrd
        ((TmV.kids1 10 noName (hv.same (four_same ((Same.refl _ _).alloc _) (by omega))) (four_far (blk_new _ _) (by omega)) (by omega)).mono (by omega))
  | false =>
    have K := Lib.hid (take_no mGet h2 hq)
    rw [hq, if_neg (by decide)] at HR
    clear hq h2
    go_wp2_with fail
    refine K.out.mono ?_
    rintro e w2 ⟨rfl, hp, h3⟩
    have B2 := B2.past hp hne
    have B3 := B3.past hp hne3
    have hN2 : w1.heap.size < w2.heap.size := by have := hp.size; simp at this; omega
    have P3 := P2.trans hp
    clear hp
    cases hq : isL s mOpen with
    | true =>
      have K := Lib.hid (take_yes mOpen h3 hq)
      rw [hq, if_pos rfl] at HR
      clear hq h3
      go_wp2_with fail
      refine K.out.mono ?_
      rintro e w2' ⟨rfl, hp, y, hs, h3⟩
      have HS := Lib.hid hs
      have C2 := B2.past hp hne
      have hN2' : w2.heap.size ≤ w2'.heap.size := hp.size
      have P3 := P3.trans hp
      clear hs hp
      rcases key_some HR.out with ⟨hr, rfl⟩ | ⟨t, s', hr, hm, rfl⟩ | ⟨t, s', hr, hm, he⟩
      · have KP := Lib.hid (HA.none h3 hr)
        clear hr h3
        go_wp2_with fail
        refine KP.out.mono ?_
        rintro e w3 ⟨hp, b, n, rfl, hb⟩
        have P4 := P3.trans hp
        have HB := Lib.hid hb
        clear hp hb
        go_wp2_with fail
        exact ⟨rfl, P4, _, _, rfl, HB.out⟩
      · have KP := Lib.hid (HA.some h3 hr)
        have HM := Lib.hid hm
        clear hr h3 hm
        go_wp2_with fail
        refine KP.out.mono ?_
        rintro e w3 ⟨A3, c3, p', rfl, hp, hv, hpp, hrd⟩
        have P4 := P3.trans hp
        have KM := Lib.hid (must_no mClose g A c E p' s' _ (hrd.below (below_alloc (Below.refl _ _) (.cells #[.int .i64 t.f0, .string t.f1, .int .i64 t.f2, .slice A3 t.f3.length c3] 26))) HM.out)
        have P5 := P4.alloc (.cells #[.int .i64 t.f0, .string t.f1, .int .i64 t.f2, .slice A3 t.f3.length c3] 26)
        clear hp hpp hrd
        go_wp2_with fail
        refine KM.out.mono ?_
        rintro e w4 ⟨hp, b, n, rfl, hb⟩
        have P6 := P5.trans hp
        have HB := Lib.hid hb
        clear hp hb
        go_wp2_with fail
        exact ⟨rfl, P6, _, _, rfl, HB.out⟩
      · have KP := Lib.hid (HA.some h3 hr)
        have HE := Lib.hid he
        have HM := Lib.hid hm
        clear hr h3 he hm
        go_wp2_with fail
        refine KP.out.mono ?_
        rintro e w3 ⟨A3, c3, p', rfl, hp, hv, hpp, hrd⟩
        have P4 := P3.trans hp
        have D2 := C2.past hp hne
        have HPP := Lib.hid hpp
        have hN3 : w2'.heap.size ≤ w3.heap.size := hp.size
        have hne4 : w3.heap.size ≠ g := by omega
        obtain ⟨z, q, rfl⟩ := isL_ne HM.out
        have KM := Lib.hid (must_yes mClose g A c E p' z q _ (hrd.below (below_alloc (Below.refl _ _) (.cells #[.int .i64 t.f0, .string t.f1, .int .i64 t.f2, .slice A3 t.f3.length c3] 26))) HM.out)
        have P5 := P4.alloc (.cells #[.int .i64 t.f0, .string t.f1, .int .i64 t.f2, .slice A3 t.f3.length c3] 26)
        have D2 := D2.alloc (.cells #[.int .i64 t.f0, .string t.f1, .int .i64 t.f2, .slice A3 t.f3.length c3] 26)
        have D4 := Own.new w3 #[.int .i64 t.f0, .string t.f1, .int .i64 t.f2, .slice A3 t.f3.length c3] 26
        have hv := hv.same ((Same.refl _ _).alloc (.cells #[.int .i64 t.f0, .string t.f1, .int .i64 t.f2, .slice A3 t.f3.length c3] 26))
        clear hp hpp hrd
        go_wp2_with fail
        refine KM.out.mono ?_
        rintro e w4 ⟨rfl, hp, hrd⟩
        have P6 := P5.trans hp
        have D2 := D2.past hp hne
        have D4 := D4.past hp hne4
        have hv := hv.same (Same.of_past hp (by omega))
        have hN4 : w3.heap.size < w4.heap.size := by have := hp.size; simp at this; omega
        have d0 := D2.cell 0
        have d1 := D2.cell 1
        have d2 := D2.cell 2
        have d3 := D2.cell 3
        have dz := fun i => D2.fz i
        have q0 := D4.cell 0
        have q1 := D4.cell 1
        have q2 := D4.cell 2
        have q3 := D4.cell 3
        have qz := fun i => D4.fz i
        clear hp
        go_wp2_with fail
        refine ret4 rfl rfl (Own.four D2) ?_
        have e1 := HE.out
        injection e1 with e1
        subst e1
        exact Out.ret HH.out P6 (four_set (w3size := 0) (Below.refl _ _)) (by have := HPP.out; rw [HS.out]; simp at this ⊢; exact this) hrd
          ((hv.same (four_same (Same.refl _ _) (by omega))).mono (by omega))
    | false =>
      have K := Lib.hid (take_no mOpen h3 hq)
      rw [hq, if_neg (by decide), HX.out] at HR
      clear hq h3
      go_wp2_with fail
      refine K.out.mono ?_
      rintro e w2' ⟨rfl, hp, h3⟩
      have C2 := B2.past hp hne
      have C3 := B3.past hp hne3
      have hN2' : w2.heap.size ≤ w2'.heap.size := hp.size
      have P3 := P3.trans hp
      have t0 := C3.cell 0
      have t1 := C3.cell 1
      have t2 := C3.cell 2
      clear hp
      by_cases hx1 : x.f0 = 1
      · have b1 : (x.f0 == 1) = true := by simpa using hx1
        have HF := Lib.hid hx1
        rw [hx1, if_pos rfl] at HR
        clear hx1
        obtain ⟨y, r, rfl⟩ := peek_ne (s := s) (by rw [HX.out, HF.out]; decide)
        have HY := Lib.hid (show y = x from HX.out)
        have hf0 := h3.c1
        have hfz := h3.fz 1
        have hlen := h3.len
        have hp0 : (0 : Int) ≤ (p.length : Int) := by omega
        have hp1 : (p.length : Int) + 1 ≤ 9223372036854775807 := by simp at hlen; omega
        have H4 := Lib.hid h3.step
        have D2 : Own (w2'.setCell ⟨g, 1, none⟩ (.int .i64 ((p.length : Int) + 1))) w.heap.size zeroV 26 := blk_far C2 hne _
        have D3 : Own (w2'.setCell ⟨g, 1, none⟩ (.int .i64 ((p.length : Int) + 1))) w1.heap.size #[.int .i64 x.f0, .string x.f1, .int .i64 x.f2] 106 := blk_far C3 hne3 _
        have d0 := D2.cell 0
        have d1 := D2.cell 1
        have d2 := D2.cell 2
        have d3 := D2.cell 3
        have dz := fun i => D2.fz i
        have q0 := D3.cell 0
        have q1 := D3.cell 1
        have q2 := D3.cell 2
        clear h3
        go_wp2_with fail
        refine ret4 rfl rfl (Own.four D2) ?_
        have e1 := HR.out
        injection e1 with e1
        subst e1
        have hy := HY.out
        subst hy
        exact Out.ret HH.out (P3.set 1 _) (four_set (w3size := 0) (Below.refl _ _)) (by simp) H4.out (TmV.leaf _ _ _ _ _)
      · have b1 : (x.f0 == 1) = false := by simpa using hx1
        rw [if_neg hx1] at HR
        clear hx1
        by_cases hx2 : x.f0 = 2
        · have b2 : (x.f0 != 2) = false := by simpa using hx2
          have HF := Lib.hid hx2
          rw [hx2, if_pos rfl] at HR
          clear hx2
          obtain ⟨y, r, rfl⟩ := peek_ne (s := s) (by rw [HX.out, HF.out]; decide)
          have HY := Lib.hid (show y = x from HX.out)
          have hf0 := h3.c1
          have hfz := h3.fz 1
          have hlen := h3.len
          have hp0 : (0 : Int) ≤ (p.length : Int) := by omega
          have hp1 : (p.length : Int) + 1 ≤ 9223372036854775807 := by simp at hlen; omega
          have H4 := Lib.hid h3.step
          have D2 : Own (w2'.setCell ⟨g, 1, none⟩ (.int .i64 ((p.length : Int) + 1))) w.heap.size zeroV 26 := blk_far C2 hne _
          have D3 : Own (w2'.setCell ⟨g, 1, none⟩ (.int .i64 ((p.length : Int) + 1))) w1.heap.size #[.int .i64 x.f0, .string x.f1, .int .i64 x.f2] 106 := blk_far C3 hne3 _
          have d0 := D2.cell 0
          have d1 := D2.cell 1
          have d2 := D2.cell 2
          have d3 := D2.cell 3
          have dz := fun i => D2.fz i
          have q0 := D3.cell 0
          have q1 := D3.cell 1
          have q2 := D3.cell 2
          clear h3
          go_wp2_with fail
          refine ret4 rfl rfl (Own.four D2) ?_
          have e1 := HR.out
          injection e1 with e1
          subst e1
          have hy := HY.out
          subst hy
          exact Out.ret HH.out (P3.set 1 _) (four_set (w3size := 0) (Below.refl _ _)) (by simp) H4.out (TmV.leaf _ _ _ _ _)
        · have b2 : (x.f0 != 2) = true := by simpa using hx2
          rw [if_neg hx2] at HR
          clear hx2
          have KF := Lib.hid (failC g A c E p s _ h3)
          clear h3
          go_wp2_with fail
          refine KF.out.mono ?_
          rintro e w3 ⟨hp, b, n, rfl, hb⟩
          have P4 := P3.trans hp
          have HB := Lib.hid hb
          have e1 := HR.out
          injection e1 with e1
          subst e1
          clear hp hb
          go_wp2_with fail
          exact ⟨rfl, P4, _, _, rfl, HB.out⟩
end Go.Proofs.YtchekgnacodolaaGreatDoor.X
end
section
namespace Go.Proofs.YtchekgnacodolaaGreatDoor.X
open Go.RowKit Go.Proofs.YtchekgnacodolaaGreatDoorW.PrintWords Go.Proofs.YtchekgnacodolaaGreatDoorW.PrintLast Go.Proofs.YtchekgnacodolaaGreatDoorW.PrintMore
set_option linter.unusedSimpArgs false
set_option linter.unusedVariables false
def TmR (w : World) (t : Tm) (v : Value) : Prop := ∃ A c, v = .agg #[.int .i64 t.f0, .string t.f1, .int .i64 t.f2, .slice A t.f3.length c] ∧ t.f3.length ≤ c ∧ Kd.C k26 w A t.f3.length t.f3
theorem TmV.R {base : Nat} {w : World} {t : Tm} {v : Value} (h : TmV base w t v) : TmR w t v := by
  obtain ⟨A, c, e, hl, hC⟩ := h
  exact ⟨A, c, e, hl, hC w (Same.refl _ _)⟩
theorem TmR.below {w w1 : World} {t : Tm} {v : Value} (h : TmR w t v) (hb : Below w.heap.size w w1) : TmR w1 t v := by
  obtain ⟨A, c, e, hl, hC⟩ := h
  exact ⟨A, c, e, hl, Kd.C_below hC hb⟩
theorem rdTmAt (l : List Tm) (i : Nat) (h : i < l.length) : rd_T26 l (i : Int) = l[i] := by
  unfold rd_T26; simp [List.getD_eq_getElem?_getD, List.getElem?_eq_getElem h]
theorem TmR.at {w : World} {A : Option Addr} {l : List Tm} (h : Kd.C k26 w A l.length l) (i : Nat) (hi : i < l.length) :
    ∃ ad A3 c3, A = some ad ∧ w.cell? (ad.add (i * 4)) = some (.int .i64 l[i].f0) ∧ w.cell? ⟨(ad.add (i * 4)).block, (ad.add (i * 4)).off + 1, none⟩ = some (.string l[i].f1) ∧ w.cell? ⟨(ad.add (i * 4)).block, (ad.add (i * 4)).off + 2, none⟩ = some (.int .i64 l[i].f2) ∧ w.cell? ⟨(ad.add (i * 4)).block, (ad.add (i * 4)).off + 3, none⟩ = some (.slice A3 l[i].f3.length c3) ∧ TmR w l[i] (.agg #[.int .i64 l[i].f0, .string l[i].f1, .int .i64 l[i].f2, .slice A3 l[i].f3.length c3]) := by
  obtain ⟨ad, A3, c3, e, h0, h1, h2, h3, hl, hC⟩ := at_T26 h (i : Int) (by omega) (by omega)
  rw [rdTmAt l i hi, Int.toNat_natCast] at *
  exact ⟨ad, A3, c3, e, h0, h1, h2, h3, A3, c3, rfl, hl, hC⟩
def SameH (t : Tm) : Prop := ∀ (u : Tm) (vt vu : Value) (w : World), TmR w t vt → TmR w u vu → Calls Tryz.prog 27 #[vt, vu] w fun e w' => e = .returned (.bool (sameTm t u)) ∧ Below w.heap.size w w'
theorem sames_len : ∀ (l m : List Tm), l.length ≠ m.length → samesTm l m = false
  | [], [], h => absurd rfl h
  | [], _ :: _, _ => by simp [samesTm]
  | _ :: _, [], _ => by simp [samesTm]
  | a :: l, b :: m, h => by
    rw [samesTm, sames_len l m (fun e => h (by simp [e]))]; simp
set_option maxRecDepth 100000 in
set_option maxHeartbeats 4000000 in
theorem eqTerms (l : List Tm) (ih : ∀ t ∈ l, SameH t) (m : List Tm) (A A' : Option Addr) (c c' : Nat) (w : World) (hA : Kd.C k26 w A l.length l) (hB : Kd.C k26 w A' m.length m) :
    Calls Tryz.prog 60 #[.slice A l.length c, .slice A' m.length c', .func (.func 27) #[] #[]] w fun e w' => e = .returned (.bool (samesTm l m)) ∧ Below w.heap.size w w' := by
  have HA := Lib.hid hA
  have HB := Lib.hid hB
  have hll := hA.2.1
  have hmm := hB.2.1
  clear hA hB
  have IH := Lib.hid ih
  clear ih
  by_cases hlen : l.length = m.length
  · have hd : ((l.length : Int) != (m.length : Int)) = false := by simp [hlen]
    have HL := Lib.hid hlen
    clear hlen
    go_enter Tryz.func60, Tryz.ntmps60
    go_wp2_with fail
    go_loopg [17] l.length (fun gk v17 wr => ∃ i : Nat, v17 = .int .i64 i ∧ i ≤ l.length ∧ gk = l.length - i ∧ Aside0 (samesTm (l.drop i) (m.drop i) = samesTm l m) ∧ Aside0 (Below w.heap.size w wr))
    case atStart => exact ⟨0, rfl, by omega, by omega, ⟨rfl⟩, ⟨Below.refl _ _⟩⟩
    case round =>
      obtain ⟨i, rfl, hi, hgk, HS, HW⟩ := hrel
      by_cases hlt : i < l.length
      · have hlm : i < m.length := by have := HL.out; omega
        have hdd : decide ((i : Int) < (l.length : Int)) = true := by rw [decide_eq_true_eq]; omega
        have hdm : decide ((i : Int) < (m.length : Int)) = true := by rw [decide_eq_true_eq]; omega
        have hd0 : decide (0 ≤ (i : Int)) = true := by rw [decide_eq_true_eq]; omega
        obtain ⟨ad, A3, c3, rfl, a0, a1, a2, a3, ha⟩ := TmR.at (Kd.C_below HA.out HW.out) i hlt
        obtain ⟨bd, B3, b3, rfl, e0, e1, e2, e3, hb⟩ := TmR.at (Kd.C_below HB.out HW.out) i hlm
        have hs : samesTm (l.drop i) (m.drop i) = (sameTm l[i] m[i] && samesTm (l.drop (i + 1)) (m.drop (i + 1))) := by
          rw [List.drop_eq_getElem_cons hlt, List.drop_eq_getElem_cons hlm, samesTm]
        rw [HS.out] at hs
        have IHi := IH.out l[i] (List.getElem_mem hlt) m[i]
        generalize l[i] = x at *
        generalize m[i] = y at *
        have e0' := fun o => pw_cell_below (below_alloc (Below.refl wr.heap.size wr) o) e0
        have e1' := fun o => pw_cell_below (below_alloc (Below.refl wr.heap.size wr) o) e1
        have e2' := fun o => pw_cell_below (below_alloc (Below.refl wr.heap.size wr) o) e2
        have e3' := fun o => pw_cell_below (below_alloc (Below.refl wr.heap.size wr) o) e3
        have hb2 : ∀ o1 o2, Below wr.heap.size wr ((wr.alloc o1).alloc o2) := fun o1 o2 => below_alloc (below_alloc (Below.refl _ _) _) _
        have K := Lib.hid (fun o1 o2 => IHi _ _ _ (ha.below (hb2 o1 o2)) (hb.below (hb2 o1 o2)))
        have X8 := fun o2 => (Own.new wr #[.int .i64 x.f0, .string x.f1, .int .i64 x.f2, .slice A3 x.f3.length c3] 26).alloc o2
        have X9 := Own.new (wr.alloc (.cells #[.int .i64 x.f0, .string x.f1, .int .i64 x.f2, .slice A3 x.f3.length c3] 26)) #[.int .i64 y.f0, .string y.f1, .int .i64 y.f2, .slice B3 y.f3.length b3] 26
        have x80 := fun o => (X8 o).cell 0
        have x81 := fun o => (X8 o).cell 1
        have x82 := fun o => (X8 o).cell 2
        have x83 := fun o => (X8 o).cell 3
        have x90 := X9.cell 0
        have x91 := X9.cell 1
        have x92 := X9.cell 2
        have x93 := X9.cell 3
        have HSS := Lib.hid hs
        have HW2 := Lib.hid (fun o1 o2 w2 (h : Below ((wr.alloc o1).alloc o2).heap.size ((wr.alloc o1).alloc o2) w2) => (HW.out.trans ((hb2 o1 o2).mono HW.out.size)).trans (h.mono (Nat.le_trans HW.out.size (hb2 o1 o2).size)))
        clear hs HS IHi ha hb hb2
        generalize sameTm x y = bb at *
        cases bb with
        | false =>
          go_wp2_with fail
          refine (K.out _ _).mono ?_
          rintro e w2 ⟨rfl, hb⟩
          have HW3 := Lib.hid (HW2.out _ _ _ hb)
          clear hb x80 x81 x82 x83 x90 x91 x92 x93 e0' e1' e2' e3'
          go_wp2_with fail
          go_ret
          exact ⟨by rw [HSS.out]; rfl, HW3.out⟩
        | true =>
          go_wp2_with fail
          refine (K.out _ _).mono ?_
          rintro e w2 ⟨rfl, hb⟩
          have HW3 := Aside0.mk (HW2.out _ _ _ hb)
          clear hb x80 x81 x82 x83 x90 x91 x92 x93 e0' e1' e2' e3'
          go_wp2_with fail
          go_roundg (l.length - (i + 1))
          case measure => omega
          case rel => exact ⟨i + 1, by go_num, by omega, rfl, ⟨HSS.out.symm⟩, HW3⟩
      · have hdd : decide ((i : Int) < (l.length : Int)) = false := by rw [decide_eq_false_iff_not]; omega
        go_wp2_with fail
        go_ret
        refine ⟨?_, HW.out⟩
        have := HS.out
        rw [List.drop_of_length_le (by omega), List.drop_of_length_le (by have := HL.out; omega)] at this
        rw [← this]; rfl
  · have hd : ((l.length : Int) != (m.length : Int)) = true := by simp; omega
    have HS := Lib.hid (sames_len l m hlen)
    go_enter Tryz.func60, Tryz.ntmps60
    go_wp2_with fail
    go_ret
    exact ⟨by rw [HS.out]; rfl, Below.refl _ _⟩
set_option maxRecDepth 100000 in
set_option maxHeartbeats 4000000 in
theorem sameC (t : Tm) : SameH t := by
  induction t using Tm.ind with
  | h a b c l ih =>
    rintro ⟨a', b', c', l'⟩ vt vu w ⟨A, cA, rfl, hl, hA⟩ ⟨A', cB, rfl, hl', hB⟩
    have K := Lib.hid (fun o1 o2 => eqTerms l ih l' A A' cA cB ((w.alloc o1).alloc o2) (Kd.C_below hA (below_alloc (below_alloc (Below.refl _ _) _) _)) (Kd.C_below hB (below_alloc (below_alloc (Below.refl _ _) _) _)))
    have HB := Lib.hid (fun o1 o2 w2 (h : Below ((w.alloc o1).alloc o2).heap.size ((w.alloc o1).alloc o2) w2) => (below_alloc (below_alloc (Below.refl w.heap.size w) o1) o2).trans (h.mono (by simp; omega)))
    clear ih hA hB hl hl'
    rw [sameTm]
    cases h1 : (a == a') with
    | false =>
      go_enter Tryz.func27, Tryz.ntmps27
      go_wp2_with fail
      go_ret
      exact ⟨rfl, below_alloc (below_alloc (Below.refl _ _) _) _⟩
    | true =>
    cases h2 : (b.toList == b'.toList) with
    | false =>
      go_enter Tryz.func27, Tryz.ntmps27
      go_wp2_with fail
      go_ret
      exact ⟨rfl, below_alloc (below_alloc (Below.refl _ _) _) _⟩
    | true =>
    cases h3 : (c == c') with
    | false =>
      go_enter Tryz.func27, Tryz.ntmps27
      go_wp2_with fail
      go_ret
      exact ⟨rfl, below_alloc (below_alloc (Below.refl _ _) _) _⟩
    | true =>
      go_enter Tryz.func27, Tryz.ntmps27
      go_wp2_with fail
      refine (K.out _ _).mono ?_
      rintro e w2 ⟨rfl, hb⟩
      have HB2 := Lib.hid (HB.out _ _ _ hb)
      clear hb
      go_wp2_with fail
      go_ret
      exact ⟨rfl, HB2.out⟩
end Go.Proofs.YtchekgnacodolaaGreatDoor.X
end

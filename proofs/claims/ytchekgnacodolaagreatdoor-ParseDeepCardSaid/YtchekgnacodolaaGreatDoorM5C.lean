import Derived.Test.YtchekgnacodolaaGreatDoorM5B
import Derived.Defers
import Derived.Recover
import Derived.Tactics2
import Derived.Laws.Pointers
/- chancel/parse's reader: what begins with no key, what stands before a key, what a semicolon may stand behind. Printed by our own program (wip/tools/genread.py). -/
namespace Go.Proofs.YtchekgnacodolaaGreatDoor.X
open Go.RowKit Go.Proofs.YtchekgnacodolaaGreatDoorW.PrintWords Go.Proofs.YtchekgnacodolaaGreatDoorW.PrintLast Go.Proofs.YtchekgnacodolaaGreatDoorW.PrintMore
set_option linter.unusedSimpArgs false
set_option linter.unusedVariables false
set_option maxRecDepth 100000 in
set_option maxHeartbeats 8000000 in
theorem upto_step (m : ByteArray) (k : Nat) (HA : RH 86 .all k) : ∀ (g : Nat) (A : Option Addr) (c : Nat) (E : Value) (p s : List TokT) (w : World) (res : Option (Tm × List TokT)), Rd g A c E p s w → (run k .all s).key m PR.ret = some res →
    Calls Tryz.prog 176 #[.pointer (some ⟨g, 0, none⟩), .string m] w fun e w' => Out g A c E p s w res e w' := by
  intro g A c E p s w res h hrun
  have h0 := h.below (below_alloc (Below.refl _ _) (.cells zeroV 26))
  have hlt := h.lt
  have hne : w.heap.size ≠ g := by omega
  have HH := Lib.hid h
  have B2 := Own.new w zeroV 26
  have P0 : Past g w (w.alloc (.cells zeroV 26)) := Past.of_below (below_alloc (Below.refl _ _) _)
  rcases key_some hrun with ⟨hr, rfl⟩ | ⟨t, s', hr, hm, rfl⟩ | ⟨t, s', hr, hm, he⟩
  · have KP := Lib.hid (HA.none h0 hr)
    clear hr h0 h hrun
    go_enter Tryz.func176, Tryz.ntmps176
    go_wp2_with fail
    refine KP.out.mono ?_
    rintro e wz ⟨hp, b, n, rfl, hb⟩
    have P9 := P0.trans hp
    have HB := Lib.hid hb
    clear hp hb
    go_wp2_with fail
    exact ⟨rfl, P9, _, _, rfl, HB.out⟩
  · have KP := Lib.hid (HA.some h0 hr)
    have HM := Lib.hid hm
    clear hr h0 h hrun hm
    go_enter Tryz.func176, Tryz.ntmps176
    go_wp2_with fail
    refine KP.out.mono ?_
    rintro e w1 ⟨A3, c3, p', rfl, hp, hv, hpp, hrd⟩
    have KM := Lib.hid (must_no m g A c E p' s' _ (hrd.below (below_alloc (Below.refl _ _) (.cells #[.int .i64 t.f0, .string t.f1, .int .i64 t.f2, .slice A3 t.f3.length c3] 26))) HM.out)
    have P1 := (P0.trans hp).alloc (.cells #[.int .i64 t.f0, .string t.f1, .int .i64 t.f2, .slice A3 t.f3.length c3] 26)
    clear hp hpp hrd hv
    go_wp2_with fail
    refine KM.out.mono ?_
    rintro e wz ⟨hp, b, n, rfl, hb⟩
    have P9 := P1.trans hp
    have HB := Lib.hid hb
    clear hp hb
    go_wp2_with fail
    exact ⟨rfl, P9, _, _, rfl, HB.out⟩
  · have KP := Lib.hid (HA.some h0 hr)
    have HM := Lib.hid hm
    have HE := Lib.hid he
    clear hr h0 h hrun hm he
    go_enter Tryz.func176, Tryz.ntmps176
    go_wp2_with fail
    refine KP.out.mono ?_
    rintro e w1 ⟨A3, c3, p', rfl, hp, hv, hpp, hrd⟩
    have hN1 : w.heap.size < w1.heap.size := by have := hp.size; (try simp at this); omega
    have hne1 : w1.heap.size ≠ g := by omega
    obtain ⟨z, q, rfl⟩ := isL_ne HM.out
    have KM := Lib.hid (must_yes m g A c E p' z q _ (hrd.below (below_alloc (Below.refl _ _) (.cells #[.int .i64 t.f0, .string t.f1, .int .i64 t.f2, .slice A3 t.f3.length c3] 26))) HM.out)
    have P1 := (P0.trans hp).alloc (.cells #[.int .i64 t.f0, .string t.f1, .int .i64 t.f2, .slice A3 t.f3.length c3] 26)
    have B2 := (B2.past hp hne).alloc (.cells #[.int .i64 t.f0, .string t.f1, .int .i64 t.f2, .slice A3 t.f3.length c3] 26)
    have B3 := Own.new w1 #[.int .i64 t.f0, .string t.f1, .int .i64 t.f2, .slice A3 t.f3.length c3] 26
    have hv := hv.same ((Same.refl _ _).alloc (.cells #[.int .i64 t.f0, .string t.f1, .int .i64 t.f2, .slice A3 t.f3.length c3] 26))
    simp only [World.size_alloc] at hv
    have HPP := Lib.hid hpp
    clear hp hpp hrd
    go_wp2_with fail
    refine KM.out.mono ?_
    rintro e w2 ⟨rfl, hp, hrd⟩
    have P2 := P1.trans hp
    have B2 := B2.past hp hne
    have B3 := B3.past hp hne1
    have hv := hv.same (Same.of_past hp (by omega))
    have d0 := B2.cell 0
    have d1 := B2.cell 1
    have d2 := B2.cell 2
    have d3 := B2.cell 3
    have dz := fun i => B2.fz i
    have q0 := B3.cell 0
    have q1 := B3.cell 1
    have q2 := B3.cell 2
    have q3 := B3.cell 3
    clear hp
    go_wp2_with fail
    refine ret4 rfl rfl (Own.four B2) ?_
    have e1 := HE.out
    injection e1 with e1
    subst e1
    exact Out.ret HH.out P2 (four_set (w3size := 0) (Below.refl _ _)) (by have := HPP.out; simp at this ⊢; exact this) hrd ((hv.same (four_same (Same.refl _ _) (by omega))).mono (by omega))
theorem upto_some {m : ByteArray} {k : Nat} (HA : RH 86 .all k) {g : Nat} {A : Option Addr} {c : Nat} {E : Value} {p s s' : List TokT} {t : Tm} {w : World} (hr : Rd g A c E p s w) (e : run k .all s = .some (.some (t, s'))) (hm : isL s' m = true) :
    Calls Tryz.prog 176 #[.pointer (.some ⟨g, 0, none⟩), .string m] w fun e w' => ∃ A3 c3 p', e = .returned (.agg #[.int .i64 t.f0, .string t.f1, .int .i64 t.f2, .slice A3 t.f3.length c3]) ∧ Past g w w' ∧ TmV w.heap.size w' t (.agg #[.int .i64 t.f0, .string t.f1, .int .i64 t.f2, .slice A3 t.f3.length c3]) ∧ p' ++ s'.tail = p ++ s ∧ Rd g A c E p' s'.tail w' := by
  refine (upto_step m k HA g A c E p s w (some (t, s'.tail)) hr (by unfold PR.key; rw [e]; show (if isL s' m = true then _ else _) = _; rw [if_pos hm]; rfl)).mono ?_
  rintro e w' ⟨hp, v, p', rfl, hv, he, hr'⟩
  obtain ⟨A3, c3, rfl, hl, hC⟩ := hv
  exact ⟨A3, c3, p', rfl, hp, ⟨A3, c3, rfl, hl, hC⟩, he, hr'⟩
theorem upto_none {m : ByteArray} {k : Nat} (HA : RH 86 .all k) {g : Nat} {A : Option Addr} {c : Nat} {E : Value} {p s : List TokT} {w : World} (hr : Rd g A c E p s w) (e : (run k .all s).key m PR.ret = .some .none) :
    Calls Tryz.prog 176 #[.pointer (.some ⟨g, 0, Option.none⟩), .string m] w fun e w' => Fails g E w e w' := upto_step m k HA g A c E p s w none hr e
theorem key_none {r : PR} {m : ByteArray} (h : r = some none ∨ ∃ t s, r = some (some (t, s)) ∧ isL s m = false) : r.key m PR.ret = some none := by
  rcases h with rfl | ⟨t, s, rfl, hm⟩
  · rfl
  · show (if isL s m = true then _ else _) = _; rw [hm]; rfl
theorem key_cases {r : PR} {m : ByteArray} {f : Tm → List TokT → PR} {res : Option (Tm × List TokT)} (h : r.key m f = some res) : (r.key m PR.ret = some none ∧ res = none) ∨ ∃ t s, r = some (some (t, s)) ∧ isL s m = true ∧ f t s.tail = some res := by
  rcases key_some h with ⟨e, rfl⟩ | ⟨t, s, e, hm, rfl⟩ | h
  · exact .inl ⟨key_none (.inl e), rfl⟩
  · exact .inl ⟨key_none (.inr ⟨t, s, e, hm⟩), rfl⟩
  · exact .inr h
theorem name_some {o : Option (ByteArray × List TokT)} {f : ByteArray → List TokT → PR} {res : Option (Tm × List TokT)} (h : PR.name o f = some res) : (o = none ∧ res = none) ∨ ∃ n s, o = some (n, s) ∧ f n s = some res := by
  cases o with
  | none => exact .inl ⟨rfl, (Option.some.inj h).symm⟩
  | some x => exact .inr ⟨x.1, x.2, rfl, h⟩
theorem bound_some {m : ByteArray} {s s' : List TokT} {nm : ByteArray} (hb : boundL s m = some (nm, s')) : ∃ x y, s = x :: y :: s' ∧ x.f0 = 1 ∧ x.f1 = nm ∧ isL (y :: s') m = true := by
  unfold boundL at hb
  by_cases hx : (peekL s).f0 = 1
  · rw [if_pos hx] at hb
    obtain ⟨x, r, rfl⟩ := peek_ne (s := s) (by rw [hx]; decide)
    by_cases hm : isL r m = true
    · rw [if_pos (by exact hm)] at hb
      obtain ⟨y, r', rfl⟩ := isL_ne hm
      injection hb with hb
      injection hb with h1 h2
      subst h2
      exact ⟨x, y, rfl, hx, h1, hm⟩
    · rw [if_neg (by exact hm)] at hb; cases hb
  · rw [if_neg hx] at hb; cases hb
theorem boundC {m : ByteArray} {g : Nat} {A : Option Addr} {c : Nat} {E : Value} {p s s' : List TokT} {nm : ByteArray} {w : World} (h : Rd g A c E p s w) (hb : boundL s m = some (nm, s')) :
    Calls Tryz.prog 175 #[.pointer (some ⟨g, 0, none⟩), .string m] w fun e w' => e = .returned (.string nm) ∧ Past g w w' ∧ ∃ p', p' ++ s' = p ++ s ∧ Rd g A c E p' s' w' := by
  obtain ⟨x, y, rfl, hx, rfl, hm⟩ := bound_some hb
  refine (bound_yes m g A c E p x y s' w h hx hm).mono ?_
  rintro e w' ⟨rfl, hp, hr⟩
  exact ⟨rfl, hp, _, by simp, hr⟩
theorem run_one (k : Nat) (s : List TokT) : run (k + 1) .one s =
    if isL s kFun = true then PR.name (boundL s.tail mArrow) fun n s => (run k .all s).then_ fun x s => PR.ret (tm 3 n [x]) s
    else if isL s kLet = true then PR.name (boundL s.tail mEq) fun n s => (run k .all s).key kIn fun x s => (run k .all s).then_ fun y s => PR.ret (tm 5 n [x, y]) s
    else if isL s kIf = true then (run k .all s.tail).key kThen fun c s => (run k .all s).key kElse fun x s => (run k .all s).then_ fun y s => PR.ret (tm 6 noName [c, x, y]) s
    else if isL s kWhile = true then (run k .all s.tail).key kDo fun c s => (run k .all s).then_ fun x s => PR.ret (tm 7 noName [c, x]) s
    else if isL s kRaise = true then (run k .one s.tail).then_ fun x s => PR.ret (tm 8 noName [x]) s
    else if isL s kTry = true then (run k .all s.tail).key kWith fun x s => PR.name (boundL s mArrow) fun n s => (run k .all s).then_ fun y s => PR.ret (tm 9 n [x, y]) s
    else run k .plain s := rfl
set_option maxRecDepth 100000 in
set_option maxHeartbeats 8000000 in
theorem one_fun (k : Nat) (HA : RH 86 .all k) (HO : RH 131 .one k) (HL : RH 177 .plain k) (g : Nat) (A : Option Addr) (c : Nat) (E : Value) (p s : List TokT) (w : World) (res : Option (Tm × List TokT)) (h : Rd g A c E p s w)  (hq : isL s kFun = true) (hrun : (PR.name (boundL s.tail mArrow) fun n s => (run k .all s).then_ fun x s => PR.ret (tm 3 n [x]) s) = some res) :
    Calls Tryz.prog 131 #[.pointer (some ⟨g, 0, none⟩)] w fun e w' => Out g A c E p s w res e w' := by
  have h0 := h.below (below_alloc (Below.refl _ _) (.cells zeroV 26))
  have hlt := h.lt
  have hne : w.heap.size ≠ g := by omega
  have HH := Lib.hid h
  have B2 := Own.new w zeroV 26
  have P0 : Past g w (w.alloc (.cells zeroV 26)) := Past.of_below (below_alloc (Below.refl _ _) _)
  have HR := Lib.hid hrun
  have MQ := Lib.hid hq
  clear hrun h hq
  go_enter Tryz.func131, Tryz.ntmps131
  go_wp2_with fail
  refine (take_yes kFun h0 MQ.out).mono ?_
  rintro e w1 ⟨rfl, hp, y0, hs, h1⟩
  have P1 := P0.trans hp
  have B2 := B2.past hp hne
  have HS := Lib.hid hs
  have hN1 : w.heap.size < w1.heap.size := by have := B2.lt; omega
  clear hp hs
  rcases name_some HR.out with ⟨hb, rfl⟩ | ⟨nm, s1, hb, he⟩
  · have KP := Lib.hid (bound_no mArrow g A c E _ _ _ h1 hb)
    clear hb h1
    go_wp2_with fail
    refine KP.out.mono ?_
    rintro e wz ⟨hp, b, n, rfl, hb⟩
    have P9 := P1.trans hp
    have HB := Lib.hid hb
    clear hp hb
    go_wp2_with fail
    exact ⟨rfl, P9, _, _, rfl, HB.out⟩
  · have KB := Lib.hid (boundC h1 hb)
    clear hb h1
    go_wp2_with fail
    refine KB.out.mono ?_
    rintro e w2 ⟨rfl, hp, p2, hpp, h2⟩
    have P2 := P1.trans hp
    have B2 := B2.past hp hne
    have hN2 : w1.heap.size ≤ w2.heap.size := hp.size
    have HPP := Lib.hid hpp
    clear hp hpp
    rcases then_some he with ⟨hr, rfl⟩ | ⟨t, s2, hr, he2⟩
    · have KP := Lib.hid (HA.none h2 hr)
      clear hr h2 he
      go_wp2_with fail
      refine KP.out.mono ?_
      rintro e wz ⟨hp, b, n, rfl, hb⟩
      have P9 := P2.trans hp
      have HB := Lib.hid hb
      clear hp hb
      go_wp2_with fail
      exact ⟨rfl, P9, _, _, rfl, HB.out⟩
    · have KP := Lib.hid (HA.some h2 hr)
      have HE := Lib.hid he2
      clear hr h2 he he2
      go_wp2_with fail
      refine KP.out.mono ?_
      rintro e w3 ⟨A3, c3, p3, rfl, hp, hv, hpp, hrdz⟩
      have PZ := P2.trans hp
      have B2 := B2.past hp hne
      have hN3 : w2.heap.size ≤ w3.heap.size := hp.size
      have HPP3 := Lib.hid hpp
      have B2a := B2.alloc (.cells #[.int .i64 t.f0, .string t.f1, .int .i64 t.f2, .slice A3 t.f3.length c3] 26)
      have d0 := B2a.cell 0
      have d1 := B2a.cell 1
      have d2 := B2a.cell 2
      have d3 := B2a.cell 3
      have dz := fun i => B2a.fz i
      clear hp hpp
      go_wp2_with fail
      refine ret4 rfl rfl (Own.four (B2.alloc _)) ?_
      have e1 := HE.out
      injection e1 with e1
      subst e1
      exact Out.ret HH.out PZ (four_set (w3size := 0) (belowN_alloc (by omega) _)) (by rw [HPP3.out, HPP.out, HS.out]; simp) hrdz ((TmV.kids1 3 nm (hv.same (four_same ((Same.refl _ _).alloc _) (by omega))) (four_far (blk_new _ _) (by omega)) (by omega)).mono (by omega))
set_option maxRecDepth 100000 in
set_option maxHeartbeats 8000000 in
theorem one_raise (k : Nat) (HA : RH 86 .all k) (HO : RH 131 .one k) (HL : RH 177 .plain k) (g : Nat) (A : Option Addr) (c : Nat) (E : Value) (p s : List TokT) (w : World) (res : Option (Tm × List TokT)) (h : Rd g A c E p s w) (n0 : isL s kFun = false) (n1 : isL s kLet = false) (n2 : isL s kIf = false) (n3 : isL s kWhile = false) (hq : isL s kRaise = true) (hrun : ((run k .one s.tail).then_ fun x s => PR.ret (tm 8 noName [x]) s) = some res) :
    Calls Tryz.prog 131 #[.pointer (some ⟨g, 0, none⟩)] w fun e w' => Out g A c E p s w res e w' := by
  have h0 := h.below (below_alloc (Below.refl _ _) (.cells zeroV 26))
  have hlt := h.lt
  have hne : w.heap.size ≠ g := by omega
  have HH := Lib.hid h
  have B2 := Own.new w zeroV 26
  have P0 : Past g w (w.alloc (.cells zeroV 26)) := Past.of_below (below_alloc (Below.refl _ _) _)
  have HR := Lib.hid hrun
  have M0 := Lib.hid n0
  have M1 := Lib.hid n1
  have M2 := Lib.hid n2
  have M3 := Lib.hid n3
  have MQ := Lib.hid hq
  clear hrun h n0 n1 n2 n3 hq
  go_enter Tryz.func131, Tryz.ntmps131
  go_wp2_with fail
  refine (take_no kFun h0 M0.out).mono ?_
  rintro e v0 ⟨rfl, hp, h0⟩
  have P0 := P0.trans hp
  have B2 := B2.past hp hne
  clear hp
  go_wp2_with fail
  refine (take_no kLet h0 M1.out).mono ?_
  rintro e v1 ⟨rfl, hp, h0⟩
  have P0 := P0.trans hp
  have B2 := B2.past hp hne
  clear hp
  go_wp2_with fail
  refine (take_no kIf h0 M2.out).mono ?_
  rintro e v2 ⟨rfl, hp, h0⟩
  have P0 := P0.trans hp
  have B2 := B2.past hp hne
  clear hp
  go_wp2_with fail
  refine (take_no kWhile h0 M3.out).mono ?_
  rintro e v3 ⟨rfl, hp, h0⟩
  have P0 := P0.trans hp
  have B2 := B2.past hp hne
  clear hp
  go_wp2_with fail
  refine (take_yes kRaise h0 MQ.out).mono ?_
  rintro e w1 ⟨rfl, hp, y0, hs, h1⟩
  have P1 := P0.trans hp
  have B2 := B2.past hp hne
  have HS := Lib.hid hs
  have hN1 : w.heap.size < w1.heap.size := by have := B2.lt; omega
  clear hp hs
  rcases then_some HR.out with ⟨hr, rfl⟩ | ⟨t, s2, hr, he2⟩
  · have KP := Lib.hid (HO.none h1 hr)
    clear hr h1
    go_wp2_with fail
    refine KP.out.mono ?_
    rintro e wz ⟨hp, b, n, rfl, hb⟩
    have P9 := P1.trans hp
    have HB := Lib.hid hb
    clear hp hb
    go_wp2_with fail
    exact ⟨rfl, P9, _, _, rfl, HB.out⟩
  · have KP := Lib.hid (HO.some h1 hr)
    have HE := Lib.hid he2
    clear hr h1 he2
    go_wp2_with fail
    refine KP.out.mono ?_
    rintro e w3 ⟨A3, c3, p3, rfl, hp, hv, hpp, hrdz⟩
    have PZ := P1.trans hp
    have B2 := B2.past hp hne
    have hN3 : w1.heap.size ≤ w3.heap.size := hp.size
    have HPP3 := Lib.hid hpp
    have B2a := B2.alloc (.cells #[.int .i64 t.f0, .string t.f1, .int .i64 t.f2, .slice A3 t.f3.length c3] 26)
    have d0 := B2a.cell 0
    have d1 := B2a.cell 1
    have d2 := B2a.cell 2
    have d3 := B2a.cell 3
    have dz := fun i => B2a.fz i
    clear hp hpp
    go_wp2_with fail
    refine ret4 rfl rfl (Own.four (B2.alloc _)) ?_
    have e1 := HE.out
    injection e1 with e1
    subst e1
    exact Out.ret HH.out PZ (four_set (w3size := 0) (belowN_alloc (by omega) _)) (by rw [HPP3.out, HS.out]; simp) hrdz ((TmV.kids1 8 noName (hv.same (four_same ((Same.refl _ _).alloc _) (by omega))) (four_far (blk_new _ _) (by omega)) (by omega)).mono (by omega))
set_option maxRecDepth 100000 in
set_option maxHeartbeats 8000000 in
theorem one_while (k : Nat) (HA : RH 86 .all k) (HO : RH 131 .one k) (HL : RH 177 .plain k) (g : Nat) (A : Option Addr) (c : Nat) (E : Value) (p s : List TokT) (w : World) (res : Option (Tm × List TokT)) (h : Rd g A c E p s w) (n0 : isL s kFun = false) (n1 : isL s kLet = false) (n2 : isL s kIf = false) (hq : isL s kWhile = true) (hrun : ((run k .all s.tail).key kDo fun c s => (run k .all s).then_ fun x s => PR.ret (tm 7 noName [c, x]) s) = some res) :
    Calls Tryz.prog 131 #[.pointer (some ⟨g, 0, none⟩)] w fun e w' => Out g A c E p s w res e w' := by
  have h0 := h.below (below_alloc (Below.refl _ _) (.cells zeroV 26))
  have hlt := h.lt
  have hne : w.heap.size ≠ g := by omega
  have HH := Lib.hid h
  have B2 := Own.new w zeroV 26
  have P0 : Past g w (w.alloc (.cells zeroV 26)) := Past.of_below (below_alloc (Below.refl _ _) _)
  have HR := Lib.hid hrun
  have M0 := Lib.hid n0
  have M1 := Lib.hid n1
  have M2 := Lib.hid n2
  have MQ := Lib.hid hq
  clear hrun h n0 n1 n2 hq
  go_enter Tryz.func131, Tryz.ntmps131
  go_wp2_with fail
  refine (take_no kFun h0 M0.out).mono ?_
  rintro e v0 ⟨rfl, hp, h0⟩
  have P0 := P0.trans hp
  have B2 := B2.past hp hne
  clear hp
  go_wp2_with fail
  refine (take_no kLet h0 M1.out).mono ?_
  rintro e v1 ⟨rfl, hp, h0⟩
  have P0 := P0.trans hp
  have B2 := B2.past hp hne
  clear hp
  go_wp2_with fail
  refine (take_no kIf h0 M2.out).mono ?_
  rintro e v2 ⟨rfl, hp, h0⟩
  have P0 := P0.trans hp
  have B2 := B2.past hp hne
  clear hp
  go_wp2_with fail
  refine (take_yes kWhile h0 MQ.out).mono ?_
  rintro e w1 ⟨rfl, hp, y0, hs, h1⟩
  have P1 := P0.trans hp
  have B2 := B2.past hp hne
  have HS := Lib.hid hs
  have hN1 : w.heap.size < w1.heap.size := by have := B2.lt; omega
  clear hp hs
  rcases key_cases HR.out with ⟨hr, rfl⟩ | ⟨t, s1, hr, hm, hea⟩
  · have KP := Lib.hid (upto_none HA h1 hr)
    clear hr h1
    go_wp2_with fail
    refine KP.out.mono ?_
    rintro e wz ⟨hp, b, n, rfl, hb⟩
    have P9 := P1.trans hp
    have HB := Lib.hid hb
    clear hp hb
    go_wp2_with fail
    exact ⟨rfl, P9, _, _, rfl, HB.out⟩
  · have KU := Lib.hid (upto_some HA h1 hr hm)
    clear hr h1 hm
    go_wp2_with fail
    refine KU.out.mono ?_
    rintro e xa ⟨Aa, ca, pa, rfl, hp, hva, hpp, hra⟩
    have Pa := (P1.trans hp).alloc (.cells #[.int .i64 t.f0, .string t.f1, .int .i64 t.f2, .slice Aa t.f3.length ca] 26)
    have hxa : w1.heap.size ≤ xa.heap.size := by have := hp.size; (try simp at this); omega
    have hnea : xa.heap.size ≠ g := by omega
    have hnna : w.heap.size ≠ xa.heap.size := by omega
    have B2 := (B2.past hp hne).alloc (.cells #[.int .i64 t.f0, .string t.f1, .int .i64 t.f2, .slice Aa t.f3.length ca] 26)
    have Xa := Own.new xa #[.int .i64 t.f0, .string t.f1, .int .i64 t.f2, .slice Aa t.f3.length ca] 26
    have hva := hva.same ((Same.refl _ _).alloc (.cells #[.int .i64 t.f0, .string t.f1, .int .i64 t.f2, .slice Aa t.f3.length ca] 26))
    (try simp only [World.size_alloc] at hva)
    have hra := hra.below (below_alloc (Below.refl _ _) (.cells #[.int .i64 t.f0, .string t.f1, .int .i64 t.f2, .slice Aa t.f3.length ca] 26))
    have HPPa := Lib.hid hpp
    clear hp hpp
    rcases then_some hea with ⟨hr, rfl⟩ | ⟨u, sz, hr, hez⟩
    · have PD := Pa.drew
      have qa_0 := Xa.cell 0
      have qa_1 := Xa.cell 1
      have qa_2 := Xa.cell 2
      have qa_3 := Xa.cell 3
      have KP := Lib.hid (HA.none (hra.below (below_drew (Below.refl _ _))) hr)
      clear hr hra
      go_wp2_with fail
      refine wp_region_any (by kernel_rfl) ?_
      change wpAny _ _ _ _ _ _ _ (World.drew _)
      refine wpAny_take (i := 1) (v := .pointer (some ⟨g, 0, none⟩)) rfl (by kernel_rfl) (by kernel_rfl) (by kernel_rfl) (fun _ _ _ h => h) (Or.inl ⟨by rfl, ?_⟩) ?_
      · intro w; go_simp
      refine wpAny_ready (rs := [0, 2]) (by kernel_rfl) (by simp) ?_
      refine AllReady.cons rfl (fun K hK => ?_) ?_
      · go_simp
        refine hK _ _ ?_
        clear hK K
        refine wpAny_ready (rs := [2]) (by kernel_rfl) (by simp) ?_
        refine AllReady.cons rfl (fun K hK => ?_) AllReady.nil
        go_simp
        refine KP.out.mono ?_
        rintro e w3 ⟨hp, b, n, rfl, hb⟩
        exact ⟨rfl, PD.trans hp, _, _, rfl, hb⟩
      refine AllReady.cons rfl (fun K hK => ?_) AllReady.nil
      go_simp
      refine KP.out.mono ?_
      rintro e w3 ⟨hp, b, n, rfl, hb⟩
      exact ⟨rfl, PD.trans hp, _, _, rfl, hb⟩
    · have PD := Pa.drew
      have B2d : Own (xa.alloc (.cells #[.int .i64 t.f0, .string t.f1, .int .i64 t.f2, .slice Aa t.f3.length ca] 26)).drew w.heap.size zeroV 26 := B2
      have Xad : Own (xa.alloc (.cells #[.int .i64 t.f0, .string t.f1, .int .i64 t.f2, .slice Aa t.f3.length ca] 26)).drew xa.heap.size #[.int .i64 t.f0, .string t.f1, .int .i64 t.f2, .slice Aa t.f3.length ca] 26 := Xa
      have hvad := hva.same ((Same.refl _ _).drew)
      have qa_0 := Xa.cell 0
      have qa_1 := Xa.cell 1
      have qa_2 := Xa.cell 2
      have qa_3 := Xa.cell 3
      have KP := Lib.hid (HA.some (hra.below (below_drew (Below.refl _ _))) hr)
      have HE := Lib.hid hez
      clear hr hra hez
      go_wp2_with fail
      go_region_held3 (fun w' => w'.cell? ⟨xa.heap.size, 0, none⟩ = some (.int .i64 t.f0) ∧ w'.cell? ⟨xa.heap.size, 1, none⟩ = some (.string t.f1) ∧ w'.cell? ⟨xa.heap.size, 2, none⟩ = some (.int .i64 t.f2) ∧ w'.cell? ⟨xa.heap.size, 3, none⟩ = some (.slice Aa t.f3.length ca)) (go_keep)
        ((go_at_call 86; refine KP.out.mono ?_; rintro e w3 ⟨A4, c4, pz, rfl, hp, hvz, hppz, hrdz⟩; have B2e := B2d.past hp hne; have qa_0 := (Xad.past hp hnea).cell 0; have qa_1 := (Xad.past hp hnea).cell 1; have qa_2 := (Xad.past hp hnea).cell 2; have qa_3 := (Xad.past hp hnea).cell 3; have B2f := B2e.alloc (.cells #[.int .i64 t.f0, .string t.f1, .int .i64 t.f2, .slice Aa t.f3.length ca, .int .i64 u.f0, .string u.f1, .int .i64 u.f2, .slice A4 u.f3.length c4] 26); have d0 := B2f.cell 0; have d1 := B2f.cell 1; have d2 := B2f.cell 2; have d3 := B2f.cell 3; have dz := fun i => B2f.fz i))
      go_wp2_with fail
      refine ret4 rfl rfl (Own.four B2f) ?_
      have hN3 : (xa.alloc (.cells #[.int .i64 t.f0, .string t.f1, .int .i64 t.f2, .slice Aa t.f3.length ca] 26)).heap.size ≤ w3.heap.size := hp.size
      (try simp only [World.size_alloc] at hN3)
      have e1 := HE.out
      injection e1 with e1
      subst e1
      refine Out.ret HH.out (PD.trans hp) (four_set (w3size := 0) (belowN_alloc (by omega) _)) (by rw [hppz, HPPa.out, HS.out]; simp) hrdz ?_
      exact (TmV.kids2 7 noName ((hvad.mono (base' := w.heap.size + 1) (by omega)).same (((Same.of_past hp (by omega)).alloc _).trans (four_same (Same.refl _ _) (by omega)))) ((hvz.mono (by show w.heap.size + 1 ≤ (xa.alloc (.cells #[.int .i64 t.f0, .string t.f1, .int .i64 t.f2, .slice Aa t.f3.length ca] 26)).heap.size; (try simp only [World.size_alloc]); omega)).same (((Same.refl _ _).alloc _).trans (four_same (Same.refl _ _) (by omega)))) (four_far (blk_new _ _) (by omega)) (by omega)).mono (by omega)
set_option maxRecDepth 100000 in
set_option maxHeartbeats 8000000 in
theorem one_let (k : Nat) (HA : RH 86 .all k) (HO : RH 131 .one k) (HL : RH 177 .plain k) (g : Nat) (A : Option Addr) (c : Nat) (E : Value) (p s : List TokT) (w : World) (res : Option (Tm × List TokT)) (h : Rd g A c E p s w) (n0 : isL s kFun = false) (hq : isL s kLet = true) (hrun : (PR.name (boundL s.tail mEq) fun n s => (run k .all s).key kIn fun x s => (run k .all s).then_ fun y s => PR.ret (tm 5 n [x, y]) s) = some res) :
    Calls Tryz.prog 131 #[.pointer (some ⟨g, 0, none⟩)] w fun e w' => Out g A c E p s w res e w' := by
  have h0 := h.below (below_alloc (Below.refl _ _) (.cells zeroV 26))
  have hlt := h.lt
  have hne : w.heap.size ≠ g := by omega
  have HH := Lib.hid h
  have B2 := Own.new w zeroV 26
  have P0 : Past g w (w.alloc (.cells zeroV 26)) := Past.of_below (below_alloc (Below.refl _ _) _)
  have HR := Lib.hid hrun
  have M0 := Lib.hid n0
  have MQ := Lib.hid hq
  clear hrun h n0 hq
  go_enter Tryz.func131, Tryz.ntmps131
  go_wp2_with fail
  refine (take_no kFun h0 M0.out).mono ?_
  rintro e v0 ⟨rfl, hp, h0⟩
  have P0 := P0.trans hp
  have B2 := B2.past hp hne
  clear hp
  go_wp2_with fail
  refine (take_yes kLet h0 MQ.out).mono ?_
  rintro e w1 ⟨rfl, hp, y0, hs, h1⟩
  have P1 := P0.trans hp
  have B2 := B2.past hp hne
  have HS := Lib.hid hs
  have hN1 : w.heap.size < w1.heap.size := by have := B2.lt; omega
  clear hp hs
  rcases name_some HR.out with ⟨hb, rfl⟩ | ⟨nm, s1, hb, he⟩
  · have KP := Lib.hid (bound_no mEq g A c E _ _ _ h1 hb)
    clear hb h1
    go_wp2_with fail
    refine KP.out.mono ?_
    rintro e wz ⟨hp, b, n, rfl, hb⟩
    have P9 := P1.trans hp
    have HB := Lib.hid hb
    clear hp hb
    go_wp2_with fail
    exact ⟨rfl, P9, _, _, rfl, HB.out⟩
  · have KB := Lib.hid (boundC h1 hb)
    clear hb h1
    go_wp2_with fail
    refine KB.out.mono ?_
    rintro e w2 ⟨rfl, hp, p2, hpp, h2⟩
    have P2 := P1.trans hp
    have B2 := B2.past hp hne
    have hN2 : w1.heap.size ≤ w2.heap.size := hp.size
    have HPP := Lib.hid hpp
    clear hp hpp
    rcases key_cases he with ⟨hr, rfl⟩ | ⟨t, s2, hr, hm, hea⟩
    · have KP := Lib.hid (upto_none HA h2 hr)
      clear hr h2
      go_wp2_with fail
      refine KP.out.mono ?_
      rintro e wz ⟨hp, b, n, rfl, hb⟩
      have P9 := P2.trans hp
      have HB := Lib.hid hb
      clear hp hb
      go_wp2_with fail
      exact ⟨rfl, P9, _, _, rfl, HB.out⟩
    · have KU := Lib.hid (upto_some HA h2 hr hm)
      clear hr h2 hm
      go_wp2_with fail
      refine KU.out.mono ?_
      rintro e xa ⟨Aa, ca, pa, rfl, hp, hva, hpp, hra⟩
      have Pa := (P2.trans hp).alloc (.cells #[.int .i64 t.f0, .string t.f1, .int .i64 t.f2, .slice Aa t.f3.length ca] 26)
      have hxa : w2.heap.size ≤ xa.heap.size := by have := hp.size; (try simp at this); omega
      have hnea : xa.heap.size ≠ g := by omega
      have hnna : w.heap.size ≠ xa.heap.size := by omega
      have B2 := (B2.past hp hne).alloc (.cells #[.int .i64 t.f0, .string t.f1, .int .i64 t.f2, .slice Aa t.f3.length ca] 26)
      have Xa := Own.new xa #[.int .i64 t.f0, .string t.f1, .int .i64 t.f2, .slice Aa t.f3.length ca] 26
      have hva := hva.same ((Same.refl _ _).alloc (.cells #[.int .i64 t.f0, .string t.f1, .int .i64 t.f2, .slice Aa t.f3.length ca] 26))
      (try simp only [World.size_alloc] at hva)
      have hra := hra.below (below_alloc (Below.refl _ _) (.cells #[.int .i64 t.f0, .string t.f1, .int .i64 t.f2, .slice Aa t.f3.length ca] 26))
      have HPPa := Lib.hid hpp
      clear hp hpp he
      rcases then_some hea with ⟨hr, rfl⟩ | ⟨u, sz, hr, hez⟩
      · have PD := Pa.drew
        have qa_0 := Xa.cell 0
        have qa_1 := Xa.cell 1
        have qa_2 := Xa.cell 2
        have qa_3 := Xa.cell 3
        have KP := Lib.hid (HA.none (hra.below (below_drew (Below.refl _ _))) hr)
        clear hr hra
        go_wp2_with fail
        refine wp_region_any (by kernel_rfl) ?_
        change wpAny _ _ _ _ _ _ _ (World.drew _)
        refine wpAny_take (i := 0) (v := .string nm) rfl (by kernel_rfl) (by kernel_rfl) (by kernel_rfl) (fun _ _ _ h => h) (Or.inl ⟨by rfl, ?_⟩) ?_
        · intro w; go_simp
        refine wpAny_take (i := 2) (v := .pointer (some ⟨g, 0, none⟩)) rfl (by kernel_rfl) (by kernel_rfl) (by kernel_rfl) (fun _ _ _ h => h) (Or.inl ⟨by rfl, ?_⟩) ?_
        · intro w; go_simp
        refine wpAny_ready (rs := [1, 3]) (by kernel_rfl) (by simp) ?_
        refine AllReady.cons rfl (fun K hK => ?_) ?_
        · go_simp
          refine hK _ _ ?_
          clear hK K
          refine wpAny_ready (rs := [3]) (by kernel_rfl) (by simp) ?_
          refine AllReady.cons rfl (fun K hK => ?_) AllReady.nil
          go_simp
          refine KP.out.mono ?_
          rintro e w3 ⟨hp, b, n, rfl, hb⟩
          exact ⟨rfl, PD.trans hp, _, _, rfl, hb⟩
        refine AllReady.cons rfl (fun K hK => ?_) AllReady.nil
        go_simp
        refine KP.out.mono ?_
        rintro e w3 ⟨hp, b, n, rfl, hb⟩
        exact ⟨rfl, PD.trans hp, _, _, rfl, hb⟩
      · have PD := Pa.drew
        have B2d : Own (xa.alloc (.cells #[.int .i64 t.f0, .string t.f1, .int .i64 t.f2, .slice Aa t.f3.length ca] 26)).drew w.heap.size zeroV 26 := B2
        have Xad : Own (xa.alloc (.cells #[.int .i64 t.f0, .string t.f1, .int .i64 t.f2, .slice Aa t.f3.length ca] 26)).drew xa.heap.size #[.int .i64 t.f0, .string t.f1, .int .i64 t.f2, .slice Aa t.f3.length ca] 26 := Xa
        have hvad := hva.same ((Same.refl _ _).drew)
        have qa_0 := Xa.cell 0
        have qa_1 := Xa.cell 1
        have qa_2 := Xa.cell 2
        have qa_3 := Xa.cell 3
        have KP := Lib.hid (HA.some (hra.below (below_drew (Below.refl _ _))) hr)
        have HE := Lib.hid hez
        clear hr hra hez
        go_wp2_with fail
        go_region_held3 (fun w' => w'.cell? ⟨xa.heap.size, 0, none⟩ = some (.int .i64 t.f0) ∧ w'.cell? ⟨xa.heap.size, 1, none⟩ = some (.string t.f1) ∧ w'.cell? ⟨xa.heap.size, 2, none⟩ = some (.int .i64 t.f2) ∧ w'.cell? ⟨xa.heap.size, 3, none⟩ = some (.slice Aa t.f3.length ca)) (go_keep)
          ((go_at_call 86; refine KP.out.mono ?_; rintro e w3 ⟨A4, c4, pz, rfl, hp, hvz, hppz, hrdz⟩; have B2e := B2d.past hp hne; have qa_0 := (Xad.past hp hnea).cell 0; have qa_1 := (Xad.past hp hnea).cell 1; have qa_2 := (Xad.past hp hnea).cell 2; have qa_3 := (Xad.past hp hnea).cell 3; have B2f := B2e.alloc (.cells #[.int .i64 t.f0, .string t.f1, .int .i64 t.f2, .slice Aa t.f3.length ca, .int .i64 u.f0, .string u.f1, .int .i64 u.f2, .slice A4 u.f3.length c4] 26); have d0 := B2f.cell 0; have d1 := B2f.cell 1; have d2 := B2f.cell 2; have d3 := B2f.cell 3; have dz := fun i => B2f.fz i))
        go_wp2_with fail
        refine ret4 rfl rfl (Own.four B2f) ?_
        have hN3 : (xa.alloc (.cells #[.int .i64 t.f0, .string t.f1, .int .i64 t.f2, .slice Aa t.f3.length ca] 26)).heap.size ≤ w3.heap.size := hp.size
        (try simp only [World.size_alloc] at hN3)
        have e1 := HE.out
        injection e1 with e1
        subst e1
        refine Out.ret HH.out (PD.trans hp) (four_set (w3size := 0) (belowN_alloc (by omega) _)) (by rw [hppz, HPPa.out, HPP.out, HS.out]; simp) hrdz ?_
        exact (TmV.kids2 5 nm ((hvad.mono (base' := w.heap.size + 1) (by omega)).same (((Same.of_past hp (by omega)).alloc _).trans (four_same (Same.refl _ _) (by omega)))) ((hvz.mono (by show w.heap.size + 1 ≤ (xa.alloc (.cells #[.int .i64 t.f0, .string t.f1, .int .i64 t.f2, .slice Aa t.f3.length ca] 26)).heap.size; (try simp only [World.size_alloc]); omega)).same (((Same.refl _ _).alloc _).trans (four_same (Same.refl _ _) (by omega)))) (four_far (blk_new _ _) (by omega)) (by omega)).mono (by omega)
set_option maxRecDepth 100000 in
set_option maxHeartbeats 8000000 in
theorem one_if (k : Nat) (HA : RH 86 .all k) (HO : RH 131 .one k) (HL : RH 177 .plain k) (g : Nat) (A : Option Addr) (c : Nat) (E : Value) (p s : List TokT) (w : World) (res : Option (Tm × List TokT)) (h : Rd g A c E p s w) (n0 : isL s kFun = false) (n1 : isL s kLet = false) (hq : isL s kIf = true) (hrun : ((run k .all s.tail).key kThen fun c s => (run k .all s).key kElse fun x s => (run k .all s).then_ fun y s => PR.ret (tm 6 noName [c, x, y]) s) = some res) :
    Calls Tryz.prog 131 #[.pointer (some ⟨g, 0, none⟩)] w fun e w' => Out g A c E p s w res e w' := by
  have h0 := h.below (below_alloc (Below.refl _ _) (.cells zeroV 26))
  have hlt := h.lt
  have hne : w.heap.size ≠ g := by omega
  have HH := Lib.hid h
  have B2 := Own.new w zeroV 26
  have P0 : Past g w (w.alloc (.cells zeroV 26)) := Past.of_below (below_alloc (Below.refl _ _) _)
  have HR := Lib.hid hrun
  have M0 := Lib.hid n0
  have M1 := Lib.hid n1
  have MQ := Lib.hid hq
  clear hrun h n0 n1 hq
  go_enter Tryz.func131, Tryz.ntmps131
  go_wp2_with fail
  refine (take_no kFun h0 M0.out).mono ?_
  rintro e v0 ⟨rfl, hp, h0⟩
  have P0 := P0.trans hp
  have B2 := B2.past hp hne
  clear hp
  go_wp2_with fail
  refine (take_no kLet h0 M1.out).mono ?_
  rintro e v1 ⟨rfl, hp, h0⟩
  have P0 := P0.trans hp
  have B2 := B2.past hp hne
  clear hp
  go_wp2_with fail
  refine (take_yes kIf h0 MQ.out).mono ?_
  rintro e w1 ⟨rfl, hp, y0, hs, h1⟩
  have P1 := P0.trans hp
  have B2 := B2.past hp hne
  have HS := Lib.hid hs
  have hN1 : w.heap.size < w1.heap.size := by have := B2.lt; omega
  clear hp hs
  rcases key_cases HR.out with ⟨hr, rfl⟩ | ⟨t, s1, hr, hm, hea⟩
  · have KP := Lib.hid (upto_none HA h1 hr)
    clear hr h1
    go_wp2_with fail
    refine KP.out.mono ?_
    rintro e wz ⟨hp, b, n, rfl, hb⟩
    have P9 := P1.trans hp
    have HB := Lib.hid hb
    clear hp hb
    go_wp2_with fail
    exact ⟨rfl, P9, _, _, rfl, HB.out⟩
  · have KU := Lib.hid (upto_some HA h1 hr hm)
    clear hr h1 hm
    go_wp2_with fail
    refine KU.out.mono ?_
    rintro e xa ⟨Aa, ca, pa, rfl, hp, hva, hpp, hra⟩
    have Pa := (P1.trans hp).alloc (.cells #[.int .i64 t.f0, .string t.f1, .int .i64 t.f2, .slice Aa t.f3.length ca] 26)
    have hxa : w1.heap.size ≤ xa.heap.size := by have := hp.size; (try simp at this); omega
    have hnea : xa.heap.size ≠ g := by omega
    have hnna : w.heap.size ≠ xa.heap.size := by omega
    have B2 := (B2.past hp hne).alloc (.cells #[.int .i64 t.f0, .string t.f1, .int .i64 t.f2, .slice Aa t.f3.length ca] 26)
    have Xa := Own.new xa #[.int .i64 t.f0, .string t.f1, .int .i64 t.f2, .slice Aa t.f3.length ca] 26
    have hva := hva.same ((Same.refl _ _).alloc (.cells #[.int .i64 t.f0, .string t.f1, .int .i64 t.f2, .slice Aa t.f3.length ca] 26))
    (try simp only [World.size_alloc] at hva)
    have hra := hra.below (below_alloc (Below.refl _ _) (.cells #[.int .i64 t.f0, .string t.f1, .int .i64 t.f2, .slice Aa t.f3.length ca] 26))
    have HPPa := Lib.hid hpp
    clear hp hpp
    rcases key_cases hea with ⟨hr, rfl⟩ | ⟨t2, s2, hr, hm, heb⟩
    · have KP := Lib.hid (upto_none HA hra hr)
      clear hr hra
      go_wp2_with fail
      refine KP.out.mono ?_
      rintro e wz ⟨hp, b, n, rfl, hb⟩
      have P9 := Pa.trans hp
      have HB := Lib.hid hb
      clear hp hb
      go_wp2_with fail
      exact ⟨rfl, P9, _, _, rfl, HB.out⟩
    · have KU := Lib.hid (upto_some HA hra hr hm)
      clear hr hra hm
      go_wp2_with fail
      refine KU.out.mono ?_
      rintro e xb ⟨Ab, cb, pb, rfl, hp, hvb, hpp, hrb⟩
      have Pb := (Pa.trans hp).alloc (.cells #[.int .i64 t2.f0, .string t2.f1, .int .i64 t2.f2, .slice Ab t2.f3.length cb] 26)
      have hxb : xa.heap.size + 1 ≤ xb.heap.size := by have := hp.size; (try simp at this); omega
      have hneb : xb.heap.size ≠ g := by omega
      have hnnb : w.heap.size ≠ xb.heap.size := by omega
      have B2 := (B2.past hp hne).alloc (.cells #[.int .i64 t2.f0, .string t2.f1, .int .i64 t2.f2, .slice Ab t2.f3.length cb] 26)
      have Xb := Own.new xb #[.int .i64 t2.f0, .string t2.f1, .int .i64 t2.f2, .slice Ab t2.f3.length cb] 26
      have hvb := hvb.same ((Same.refl _ _).alloc (.cells #[.int .i64 t2.f0, .string t2.f1, .int .i64 t2.f2, .slice Ab t2.f3.length cb] 26))
      (try simp only [World.size_alloc] at hvb)
      have hrb := hrb.below (below_alloc (Below.refl _ _) (.cells #[.int .i64 t2.f0, .string t2.f1, .int .i64 t2.f2, .slice Ab t2.f3.length cb] 26))
      have HPPb := Lib.hid hpp
      have hnnab : xa.heap.size ≠ xb.heap.size := by omega
      have Xa := (Xa.past hp hnea).alloc (.cells #[.int .i64 t2.f0, .string t2.f1, .int .i64 t2.f2, .slice Ab t2.f3.length cb] 26)
      have hva := hva.same ((Same.of_past hp (by omega)).alloc (.cells #[.int .i64 t2.f0, .string t2.f1, .int .i64 t2.f2, .slice Ab t2.f3.length cb] 26))
      clear hp hpp hea
      rcases then_some heb with ⟨hr, rfl⟩ | ⟨u, sz, hr, hez⟩
      · have PD := Pb.drew
        have qa_0 := Xa.cell 0
        have qa_1 := Xa.cell 1
        have qa_2 := Xa.cell 2
        have qa_3 := Xa.cell 3
        have qb_0 := Xb.cell 0
        have qb_1 := Xb.cell 1
        have qb_2 := Xb.cell 2
        have qb_3 := Xb.cell 3
        have KP := Lib.hid (HA.none (hrb.below (below_drew (Below.refl _ _))) hr)
        clear hr hrb
        go_wp2_with fail
        refine wp_region_any (by kernel_rfl) ?_
        change wpAny _ _ _ _ _ _ _ (World.drew _)
        refine wpAny_take (i := 2) (v := .pointer (some ⟨g, 0, none⟩)) rfl (by kernel_rfl) (by kernel_rfl) (by kernel_rfl) (fun _ _ _ h => h) (Or.inl ⟨by rfl, ?_⟩) ?_
        · intro w; go_simp
        refine wpAny_ready (rs := [0, 1, 3]) (by kernel_rfl) (by simp) ?_
        refine AllReady.cons rfl (fun K hK => ?_) ?_
        · go_simp
          refine hK _ _ ?_
          clear hK K
          refine wpAny_ready (rs := [1, 3]) (by kernel_rfl) (by simp) ?_
          refine AllReady.cons rfl (fun K hK => ?_) ?_
          · go_simp
            refine hK _ _ ?_
            clear hK K
            refine wpAny_ready (rs := [3]) (by kernel_rfl) (by simp) ?_
            refine AllReady.cons rfl (fun K hK => ?_) AllReady.nil
            go_simp
            refine KP.out.mono ?_
            rintro e w3 ⟨hp, b, n, rfl, hb⟩
            exact ⟨rfl, PD.trans hp, _, _, rfl, hb⟩
          refine AllReady.cons rfl (fun K hK => ?_) AllReady.nil
          go_simp
          refine KP.out.mono ?_
          rintro e w3 ⟨hp, b, n, rfl, hb⟩
          exact ⟨rfl, PD.trans hp, _, _, rfl, hb⟩
        refine AllReady.cons rfl (fun K hK => ?_) ?_
        · go_simp
          refine hK _ _ ?_
          clear hK K
          refine wpAny_ready (rs := [0, 3]) (by kernel_rfl) (by simp) ?_
          refine AllReady.cons rfl (fun K hK => ?_) ?_
          · go_simp
            refine hK _ _ ?_
            clear hK K
            refine wpAny_ready (rs := [3]) (by kernel_rfl) (by simp) ?_
            refine AllReady.cons rfl (fun K hK => ?_) AllReady.nil
            go_simp
            refine KP.out.mono ?_
            rintro e w3 ⟨hp, b, n, rfl, hb⟩
            exact ⟨rfl, PD.trans hp, _, _, rfl, hb⟩
          refine AllReady.cons rfl (fun K hK => ?_) AllReady.nil
          go_simp
          refine KP.out.mono ?_
          rintro e w3 ⟨hp, b, n, rfl, hb⟩
          exact ⟨rfl, PD.trans hp, _, _, rfl, hb⟩
        refine AllReady.cons rfl (fun K hK => ?_) AllReady.nil
        go_simp
        refine KP.out.mono ?_
        rintro e w3 ⟨hp, b, n, rfl, hb⟩
        exact ⟨rfl, PD.trans hp, _, _, rfl, hb⟩
      · have PD := Pb.drew
        have B2d : Own (xb.alloc (.cells #[.int .i64 t2.f0, .string t2.f1, .int .i64 t2.f2, .slice Ab t2.f3.length cb] 26)).drew w.heap.size zeroV 26 := B2
        have Xad : Own (xb.alloc (.cells #[.int .i64 t2.f0, .string t2.f1, .int .i64 t2.f2, .slice Ab t2.f3.length cb] 26)).drew xa.heap.size #[.int .i64 t.f0, .string t.f1, .int .i64 t.f2, .slice Aa t.f3.length ca] 26 := Xa
        have hvad := hva.same ((Same.refl _ _).drew)
        have qa_0 := Xa.cell 0
        have qa_1 := Xa.cell 1
        have qa_2 := Xa.cell 2
        have qa_3 := Xa.cell 3
        have Xbd : Own (xb.alloc (.cells #[.int .i64 t2.f0, .string t2.f1, .int .i64 t2.f2, .slice Ab t2.f3.length cb] 26)).drew xb.heap.size #[.int .i64 t2.f0, .string t2.f1, .int .i64 t2.f2, .slice Ab t2.f3.length cb] 26 := Xb
        have hvbd := hvb.same ((Same.refl _ _).drew)
        have qb_0 := Xb.cell 0
        have qb_1 := Xb.cell 1
        have qb_2 := Xb.cell 2
        have qb_3 := Xb.cell 3
        have KP := Lib.hid (HA.some (hrb.below (below_drew (Below.refl _ _))) hr)
        have HE := Lib.hid hez
        clear hr hrb hez
        go_wp2_with fail
        go_region_held3 (fun w' => w'.cell? ⟨xa.heap.size, 0, none⟩ = some (.int .i64 t.f0) ∧ w'.cell? ⟨xa.heap.size, 1, none⟩ = some (.string t.f1) ∧ w'.cell? ⟨xa.heap.size, 2, none⟩ = some (.int .i64 t.f2) ∧ w'.cell? ⟨xa.heap.size, 3, none⟩ = some (.slice Aa t.f3.length ca) ∧ w'.cell? ⟨xb.heap.size, 0, none⟩ = some (.int .i64 t2.f0) ∧ w'.cell? ⟨xb.heap.size, 1, none⟩ = some (.string t2.f1) ∧ w'.cell? ⟨xb.heap.size, 2, none⟩ = some (.int .i64 t2.f2) ∧ w'.cell? ⟨xb.heap.size, 3, none⟩ = some (.slice Ab t2.f3.length cb)) (go_keep)
          ((go_at_call 86; refine KP.out.mono ?_; rintro e w3 ⟨A4, c4, pz, rfl, hp, hvz, hppz, hrdz⟩; have B2e := B2d.past hp hne; have qa_0 := (Xad.past hp hnea).cell 0; have qa_1 := (Xad.past hp hnea).cell 1; have qa_2 := (Xad.past hp hnea).cell 2; have qa_3 := (Xad.past hp hnea).cell 3; have qb_0 := (Xbd.past hp hneb).cell 0; have qb_1 := (Xbd.past hp hneb).cell 1; have qb_2 := (Xbd.past hp hneb).cell 2; have qb_3 := (Xbd.past hp hneb).cell 3; have B2f := B2e.alloc (.cells #[.int .i64 t.f0, .string t.f1, .int .i64 t.f2, .slice Aa t.f3.length ca, .int .i64 t2.f0, .string t2.f1, .int .i64 t2.f2, .slice Ab t2.f3.length cb, .int .i64 u.f0, .string u.f1, .int .i64 u.f2, .slice A4 u.f3.length c4] 26); have d0 := B2f.cell 0; have d1 := B2f.cell 1; have d2 := B2f.cell 2; have d3 := B2f.cell 3; have dz := fun i => B2f.fz i))
        go_wp2_with fail
        refine ret4 rfl rfl (Own.four B2f) ?_
        have hN3 : (xb.alloc (.cells #[.int .i64 t2.f0, .string t2.f1, .int .i64 t2.f2, .slice Ab t2.f3.length cb] 26)).heap.size ≤ w3.heap.size := hp.size
        (try simp only [World.size_alloc] at hN3)
        have e1 := HE.out
        injection e1 with e1
        subst e1
        refine Out.ret HH.out (PD.trans hp) (four_set (w3size := 0) (belowN_alloc (by omega) _)) (by rw [hppz, HPPb.out, HPPa.out, HS.out]; simp) hrdz ?_
        exact (TmV.kids3 6 noName ((hvad.mono (base' := w.heap.size + 1) (by omega)).same (((Same.of_past hp (by omega)).alloc _).trans (four_same (Same.refl _ _) (by omega)))) ((hvbd.mono (base' := w.heap.size + 1) (by omega)).same (((Same.of_past hp (by omega)).alloc _).trans (four_same (Same.refl _ _) (by omega)))) ((hvz.mono (by show w.heap.size + 1 ≤ (xb.alloc (.cells #[.int .i64 t2.f0, .string t2.f1, .int .i64 t2.f2, .slice Ab t2.f3.length cb] 26)).heap.size; (try simp only [World.size_alloc]); omega)).same (((Same.refl _ _).alloc _).trans (four_same (Same.refl _ _) (by omega)))) (four_far (blk_new _ _) (by omega)) (by omega)).mono (by omega)
set_option maxRecDepth 100000 in
set_option maxHeartbeats 8000000 in
theorem one_try (k : Nat) (HA : RH 86 .all k) (HO : RH 131 .one k) (HL : RH 177 .plain k) (g : Nat) (A : Option Addr) (c : Nat) (E : Value) (p s : List TokT) (w : World) (res : Option (Tm × List TokT)) (h : Rd g A c E p s w) (n0 : isL s kFun = false) (n1 : isL s kLet = false) (n2 : isL s kIf = false) (n3 : isL s kWhile = false) (n4 : isL s kRaise = false) (hq : isL s kTry = true) (hrun : ((run k .all s.tail).key kWith fun x s => PR.name (boundL s mArrow) fun n s => (run k .all s).then_ fun y s => PR.ret (tm 9 n [x, y]) s) = some res) :
    Calls Tryz.prog 131 #[.pointer (some ⟨g, 0, none⟩)] w fun e w' => Out g A c E p s w res e w' := by
  have h0 := h.below (below_alloc (Below.refl _ _) (.cells zeroV 26))
  have hlt := h.lt
  have hne : w.heap.size ≠ g := by omega
  have HH := Lib.hid h
  have B2 := Own.new w zeroV 26
  have P0 : Past g w (w.alloc (.cells zeroV 26)) := Past.of_below (below_alloc (Below.refl _ _) _)
  have HR := Lib.hid hrun
  have M0 := Lib.hid n0
  have M1 := Lib.hid n1
  have M2 := Lib.hid n2
  have M3 := Lib.hid n3
  have M4 := Lib.hid n4
  have MQ := Lib.hid hq
  clear hrun h n0 n1 n2 n3 n4 hq
  go_enter Tryz.func131, Tryz.ntmps131
  go_wp2_with fail
  refine (take_no kFun h0 M0.out).mono ?_
  rintro e v0 ⟨rfl, hp, h0⟩
  have P0 := P0.trans hp
  have B2 := B2.past hp hne
  clear hp
  go_wp2_with fail
  refine (take_no kLet h0 M1.out).mono ?_
  rintro e v1 ⟨rfl, hp, h0⟩
  have P0 := P0.trans hp
  have B2 := B2.past hp hne
  clear hp
  go_wp2_with fail
  refine (take_no kIf h0 M2.out).mono ?_
  rintro e v2 ⟨rfl, hp, h0⟩
  have P0 := P0.trans hp
  have B2 := B2.past hp hne
  clear hp
  go_wp2_with fail
  refine (take_no kWhile h0 M3.out).mono ?_
  rintro e v3 ⟨rfl, hp, h0⟩
  have P0 := P0.trans hp
  have B2 := B2.past hp hne
  clear hp
  go_wp2_with fail
  refine (take_no kRaise h0 M4.out).mono ?_
  rintro e v4 ⟨rfl, hp, h0⟩
  have P0 := P0.trans hp
  have B2 := B2.past hp hne
  clear hp
  go_wp2_with fail
  refine (take_yes kTry h0 MQ.out).mono ?_
  rintro e w1 ⟨rfl, hp, y0, hs, h1⟩
  have P1 := P0.trans hp
  have B2 := B2.past hp hne
  have HS := Lib.hid hs
  have hN1 : w.heap.size < w1.heap.size := by have := B2.lt; omega
  clear hp hs
  rcases key_cases HR.out with ⟨hr, rfl⟩ | ⟨t, s1, hr, hm, hea⟩
  · have KP := Lib.hid (upto_none HA h1 hr)
    clear hr h1
    go_wp2_with fail
    refine KP.out.mono ?_
    rintro e wz ⟨hp, b, n, rfl, hb⟩
    have P9 := P1.trans hp
    have HB := Lib.hid hb
    clear hp hb
    go_wp2_with fail
    exact ⟨rfl, P9, _, _, rfl, HB.out⟩
  · have KU := Lib.hid (upto_some HA h1 hr hm)
    clear hr h1 hm
    go_wp2_with fail
    refine KU.out.mono ?_
    rintro e xa ⟨Aa, ca, pa, rfl, hp, hva, hpp, hra⟩
    have Pa := (P1.trans hp).alloc (.cells #[.int .i64 t.f0, .string t.f1, .int .i64 t.f2, .slice Aa t.f3.length ca] 26)
    have hxa : w1.heap.size ≤ xa.heap.size := by have := hp.size; (try simp at this); omega
    have hnea : xa.heap.size ≠ g := by omega
    have hnna : w.heap.size ≠ xa.heap.size := by omega
    have B2 := (B2.past hp hne).alloc (.cells #[.int .i64 t.f0, .string t.f1, .int .i64 t.f2, .slice Aa t.f3.length ca] 26)
    have Xa := Own.new xa #[.int .i64 t.f0, .string t.f1, .int .i64 t.f2, .slice Aa t.f3.length ca] 26
    have hva := hva.same ((Same.refl _ _).alloc (.cells #[.int .i64 t.f0, .string t.f1, .int .i64 t.f2, .slice Aa t.f3.length ca] 26))
    (try simp only [World.size_alloc] at hva)
    have hra := hra.below (below_alloc (Below.refl _ _) (.cells #[.int .i64 t.f0, .string t.f1, .int .i64 t.f2, .slice Aa t.f3.length ca] 26))
    have HPPa := Lib.hid hpp
    clear hp hpp
    rcases name_some hea with ⟨hb, rfl⟩ | ⟨nm, s2, hb, he⟩
    · have KP := Lib.hid (bound_no mArrow g A c E _ _ _ hra hb)
      clear hb hra hea
      go_wp2_with fail
      refine KP.out.mono ?_
      rintro e wz ⟨hp, b, n, rfl, hb⟩
      have P9 := Pa.trans hp
      have HB := Lib.hid hb
      clear hp hb
      go_wp2_with fail
      exact ⟨rfl, P9, _, _, rfl, HB.out⟩
    · have KB := Lib.hid (boundC hra hb)
      clear hb hra hea
      go_wp2_with fail
      refine KB.out.mono ?_
      rintro e w2 ⟨rfl, hp, p2, hpp, h2⟩
      have P2 := Pa.trans hp
      have B2 := B2.past hp hne
      have Xa := Xa.past hp hnea
      have hva := hva.same (Same.of_past hp (by omega))
      have hN2 : xa.heap.size + 1 ≤ w2.heap.size := by have := hp.size; (try simp at this); omega
      have HPP := Lib.hid hpp
      clear hp hpp
      rcases then_some he with ⟨hr, rfl⟩ | ⟨u, sz, hr, hez⟩
      · have PD := P2.drew
        have qa_0 := Xa.cell 0
        have qa_1 := Xa.cell 1
        have qa_2 := Xa.cell 2
        have qa_3 := Xa.cell 3
        have KP := Lib.hid (HA.none (h2.below (below_drew (Below.refl _ _))) hr)
        clear hr h2
        go_wp2_with fail
        refine wp_region_any (by kernel_rfl) ?_
        change wpAny _ _ _ _ _ _ _ (World.drew _)
        refine wpAny_take (i := 0) (v := .string nm) rfl (by kernel_rfl) (by kernel_rfl) (by kernel_rfl) (fun _ _ _ h => h) (Or.inl ⟨by rfl, ?_⟩) ?_
        · intro w; go_simp
        refine wpAny_take (i := 2) (v := .pointer (some ⟨g, 0, none⟩)) rfl (by kernel_rfl) (by kernel_rfl) (by kernel_rfl) (fun _ _ _ h => h) (Or.inl ⟨by rfl, ?_⟩) ?_
        · intro w; go_simp
        refine wpAny_ready (rs := [1, 3]) (by kernel_rfl) (by simp) ?_
        refine AllReady.cons rfl (fun K hK => ?_) ?_
        · go_simp
          refine hK _ _ ?_
          clear hK K
          refine wpAny_ready (rs := [3]) (by kernel_rfl) (by simp) ?_
          refine AllReady.cons rfl (fun K hK => ?_) AllReady.nil
          go_simp
          refine KP.out.mono ?_
          rintro e w3 ⟨hp, b, n, rfl, hb⟩
          exact ⟨rfl, PD.trans hp, _, _, rfl, hb⟩
        refine AllReady.cons rfl (fun K hK => ?_) AllReady.nil
        go_simp
        refine KP.out.mono ?_
        rintro e w3 ⟨hp, b, n, rfl, hb⟩
        exact ⟨rfl, PD.trans hp, _, _, rfl, hb⟩
      · have PD := P2.drew
        have B2d : Own w2.drew w.heap.size zeroV 26 := B2
        have Xad : Own w2.drew xa.heap.size #[.int .i64 t.f0, .string t.f1, .int .i64 t.f2, .slice Aa t.f3.length ca] 26 := Xa
        have hvad := hva.same ((Same.refl _ _).drew)
        have qa_0 := Xa.cell 0
        have qa_1 := Xa.cell 1
        have qa_2 := Xa.cell 2
        have qa_3 := Xa.cell 3
        have KP := Lib.hid (HA.some (h2.below (below_drew (Below.refl _ _))) hr)
        have HE := Lib.hid hez
        clear hr h2 hez
        go_wp2_with fail
        go_region_held3 (fun w' => w'.cell? ⟨xa.heap.size, 0, none⟩ = some (.int .i64 t.f0) ∧ w'.cell? ⟨xa.heap.size, 1, none⟩ = some (.string t.f1) ∧ w'.cell? ⟨xa.heap.size, 2, none⟩ = some (.int .i64 t.f2) ∧ w'.cell? ⟨xa.heap.size, 3, none⟩ = some (.slice Aa t.f3.length ca)) (go_keep)
          ((go_at_call 86; refine KP.out.mono ?_; rintro e w3 ⟨A4, c4, pz, rfl, hp, hvz, hppz, hrdz⟩; have B2e := B2d.past hp hne; have qa_0 := (Xad.past hp hnea).cell 0; have qa_1 := (Xad.past hp hnea).cell 1; have qa_2 := (Xad.past hp hnea).cell 2; have qa_3 := (Xad.past hp hnea).cell 3; have B2f := B2e.alloc (.cells #[.int .i64 t.f0, .string t.f1, .int .i64 t.f2, .slice Aa t.f3.length ca, .int .i64 u.f0, .string u.f1, .int .i64 u.f2, .slice A4 u.f3.length c4] 26); have d0 := B2f.cell 0; have d1 := B2f.cell 1; have d2 := B2f.cell 2; have d3 := B2f.cell 3; have dz := fun i => B2f.fz i))
        go_wp2_with fail
        refine ret4 rfl rfl (Own.four B2f) ?_
        have hN3 : w2.heap.size ≤ w3.heap.size := hp.size
        (try simp only [World.size_alloc] at hN3)
        have e1 := HE.out
        injection e1 with e1
        subst e1
        refine Out.ret HH.out (PD.trans hp) (four_set (w3size := 0) (belowN_alloc (by omega) _)) (by rw [hppz, HPP.out, HPPa.out, HS.out]; simp) hrdz ?_
        exact (TmV.kids2 9 nm ((hvad.mono (base' := w.heap.size + 1) (by omega)).same (((Same.of_past hp (by omega)).alloc _).trans (four_same (Same.refl _ _) (by omega)))) ((hvz.mono (by show w.heap.size + 1 ≤ w2.heap.size; (try simp only [World.size_alloc]); omega)).same (((Same.refl _ _).alloc _).trans (four_same (Same.refl _ _) (by omega)))) (four_far (blk_new _ _) (by omega)) (by omega)).mono (by omega)
set_option maxRecDepth 100000 in
set_option maxHeartbeats 8000000 in
theorem one_plain (k : Nat) (HA : RH 86 .all k) (HO : RH 131 .one k) (HL : RH 177 .plain k) (g : Nat) (A : Option Addr) (c : Nat) (E : Value) (p s : List TokT) (w : World) (res : Option (Tm × List TokT)) (h : Rd g A c E p s w) (n0 : isL s kFun = false) (n1 : isL s kLet = false) (n2 : isL s kIf = false) (n3 : isL s kWhile = false) (n4 : isL s kRaise = false) (n5 : isL s kTry = false) (hrun : run k .plain s = some res) :
    Calls Tryz.prog 131 #[.pointer (some ⟨g, 0, none⟩)] w fun e w' => Out g A c E p s w res e w' := by
  have h0 := h.below (below_alloc (Below.refl _ _) (.cells zeroV 26))
  have hlt := h.lt
  have hne : w.heap.size ≠ g := by omega
  have HH := Lib.hid h
  have B2 := Own.new w zeroV 26
  have P0 : Past g w (w.alloc (.cells zeroV 26)) := Past.of_below (below_alloc (Below.refl _ _) _)
  have HR := Lib.hid hrun
  have M0 := Lib.hid n0
  have M1 := Lib.hid n1
  have M2 := Lib.hid n2
  have M3 := Lib.hid n3
  have M4 := Lib.hid n4
  have M5 := Lib.hid n5
  clear hrun h n0 n1 n2 n3 n4 n5
  go_enter Tryz.func131, Tryz.ntmps131
  go_wp2_with fail
  refine (take_no kFun h0 M0.out).mono ?_
  rintro e v0 ⟨rfl, hp, h0⟩
  have P0 := P0.trans hp
  have B2 := B2.past hp hne
  clear hp
  go_wp2_with fail
  refine (take_no kLet h0 M1.out).mono ?_
  rintro e v1 ⟨rfl, hp, h0⟩
  have P0 := P0.trans hp
  have B2 := B2.past hp hne
  clear hp
  go_wp2_with fail
  refine (take_no kIf h0 M2.out).mono ?_
  rintro e v2 ⟨rfl, hp, h0⟩
  have P0 := P0.trans hp
  have B2 := B2.past hp hne
  clear hp
  go_wp2_with fail
  refine (take_no kWhile h0 M3.out).mono ?_
  rintro e v3 ⟨rfl, hp, h0⟩
  have P0 := P0.trans hp
  have B2 := B2.past hp hne
  clear hp
  go_wp2_with fail
  refine (take_no kRaise h0 M4.out).mono ?_
  rintro e v4 ⟨rfl, hp, h0⟩
  have P0 := P0.trans hp
  have B2 := B2.past hp hne
  clear hp
  go_wp2_with fail
  refine (take_no kTry h0 M5.out).mono ?_
  rintro e v5 ⟨rfl, hp, h0⟩
  have P0 := P0.trans hp
  have B2 := B2.past hp hne
  clear hp
  go_wp2_with fail
  have HNV := Lib.hid B2.lt
  cases res with
  | none =>
    have KP := Lib.hid (HL.none h0 HR.out)
    clear h0
    refine KP.out.mono ?_
    rintro e wz ⟨hp, b, n, rfl, hb⟩
    have P9 := P0.trans hp
    have HB := Lib.hid hb
    clear hp hb
    go_wp2_with fail
    exact ⟨rfl, P9, _, _, rfl, HB.out⟩
  | some r =>
    obtain ⟨t, sz⟩ := r
    have KP := Lib.hid (HL.some h0 HR.out)
    clear h0
    refine KP.out.mono ?_
    rintro e w3 ⟨A3, c3, p3, rfl, hp, hv, hpp, hrdz⟩
    have PZ := P0.trans hp
    have B2 := B2.past hp hne
    have hNv := B2.lt
    have hN5 : w.heap.size < v5.heap.size := HNV.out
    have d0 := B2.cell 0
    have d1 := B2.cell 1
    have d2 := B2.cell 2
    have d3 := B2.cell 3
    have dz := fun i => B2.fz i
    have HPP3 := Lib.hid hpp
    clear hpp
    go_wp2_with fail
    refine ret4 rfl rfl (Own.four B2) ?_
    exact Out.ret HH.out PZ (four_set (w3size := 0) (Below.refl _ _)) HPP3.out hrdz ((hv.same (four_same (Same.refl _ _) (by omega))).mono (by omega))
theorem one_step (k : Nat) (HA : RH 86 .all k) (HO : RH 131 .one k) (HL : RH 177 .plain k) : RH 131 .one (k + 1) := by
  intro g A c E p s w res h hrun
  rw [run_one] at hrun
  cases n0 : isL s kFun with
  | true => rw [n0, if_pos rfl] at hrun; exact one_fun k HA HO HL g A c E p s w res h  n0 hrun
  | false =>
    rw [n0, if_neg (by decide)] at hrun
    cases n1 : isL s kLet with
    | true => rw [n1, if_pos rfl] at hrun; exact one_let k HA HO HL g A c E p s w res h n0 n1 hrun
    | false =>
      rw [n1, if_neg (by decide)] at hrun
      cases n2 : isL s kIf with
      | true => rw [n2, if_pos rfl] at hrun; exact one_if k HA HO HL g A c E p s w res h n0 n1 n2 hrun
      | false =>
        rw [n2, if_neg (by decide)] at hrun
        cases n3 : isL s kWhile with
        | true => rw [n3, if_pos rfl] at hrun; exact one_while k HA HO HL g A c E p s w res h n0 n1 n2 n3 hrun
        | false =>
          rw [n3, if_neg (by decide)] at hrun
          cases n4 : isL s kRaise with
          | true => rw [n4, if_pos rfl] at hrun; exact one_raise k HA HO HL g A c E p s w res h n0 n1 n2 n3 n4 hrun
          | false =>
            rw [n4, if_neg (by decide)] at hrun
            cases n5 : isL s kTry with
            | true => rw [n5, if_pos rfl] at hrun; exact one_try k HA HO HL g A c E p s w res h n0 n1 n2 n3 n4 n5 hrun
            | false =>
              rw [n5, if_neg (by decide)] at hrun
              exact one_plain k HA HO HL g A c E p s w res h n0 n1 n2 n3 n4 n5 hrun
end Go.Proofs.YtchekgnacodolaaGreatDoor.X
/- chancel/parse's reader: what begins with no key. Printed by our own program (wip/tools/genread.py). -/
namespace Go.Proofs.YtchekgnacodolaaGreatDoor.X
open Go.RowKit Go.Proofs.YtchekgnacodolaaGreatDoorW.PrintWords Go.Proofs.YtchekgnacodolaaGreatDoorW.PrintLast Go.Proofs.YtchekgnacodolaaGreatDoorW.PrintMore
set_option linter.unusedSimpArgs false
set_option linter.unusedVariables false

theorem run_plain (k : Nat) (s : List TokT) : run (k + 1) .plain s = (run k .parts s).then_ fun t s =>
    if isL s mSet = true then (run k .one s.tail).then_ fun u s => PR.ret (tm 11 noName [t, u]) s
    else match opWords.find? (isL s) with
      | some o => (run k .parts s.tail).then_ fun u s => PR.ret (tm 12 o [t, u]) s
      | none => PR.ret t s := rfl
theorem op_find {f : ByteArray → Bool} {n : Nat} {o : ByteArray} (h : opWords[n]? = some o) (hf : f o = true) (hn : ∀ x ∈ opWords.take n, f x = false) : opWords.find? f = some o := by
  have hd : opWords = opWords.take n ++ o :: opWords.drop (n + 1) := by
    have hlt : n < opWords.length := by
      rcases Nat.lt_or_ge n opWords.length with h1 | h1
      · exact h1
      · rw [List.getElem?_eq_none h1] at h; cases h
    rw [List.getElem?_eq_getElem hlt] at h
    injection h with h
    rw [← h, ← List.drop_eq_getElem_cons hlt, List.take_append_drop]
  rw [hd, List.find?_append, List.find?_eq_none.2 (fun x hx => by rw [hn x hx]; decide), List.find?_cons_of_pos (l := opWords.drop (n + 1)) hf]; rfl
abbrev opVals : Array Value := #[.string ⟨#[43]⟩, .string ⟨#[45]⟩, .string ⟨#[42]⟩, .string ⟨#[60]⟩, .string ⟨#[61]⟩]
theorem op_cell {n : Nat} {o : ByteArray} (h : opWords[n]? = some o) : opVals[n]? = some (.string o) := by
  have e : opVals = (opWords.map Value.string).toArray := rfl
  rw [e, List.getElem?_toArray, List.getElem?_map, h]; rfl
theorem op_some {n : Nat} (h : n < 5) : ∃ o, opWords[n]? = some o := ⟨opWords[n]'h, List.getElem?_eq_getElem h⟩
/-- What the loop over the operations keeps. -/
structure Ops (g : Nat) (A : Option Addr) (c : Nat) (E : Value) (p s : List TokT) (w : World) (xs b5 : Nat) (t : Tm) (Aa : Option Addr) (ca : Nat) (pa s1 : List TokT) (gk : Nat) (i : Value) (wr : World) : Prop where
  ex : ∃ n : Nat, n ≤ 5 ∧ gk = 5 - n ∧ i = .int .i64 n ∧ (∀ o ∈ opWords.take n, isL s1 o = false)
  rd : Rd g A c E pa s1 wr
  past : Past g w wr
  res : Own wr w.heap.size zeroV 26
  x : Own wr xs #[.int .i64 t.f0, .string t.f1, .int .i64 t.f2, .slice Aa t.f3.length ca] 26
  strs : Own wr b5 opVals 9
  tm : TmV (w.heap.size + 1) wr t (.agg #[.int .i64 t.f0, .string t.f1, .int .i64 t.f2, .slice Aa t.f3.length ca])
set_option maxRecDepth 100000 in
set_option maxHeartbeats 8000000 in
theorem plain_step (k : Nat) (HS : RH 197 .parts k) (HO : RH 131 .one k) : RH 177 .plain (k + 1) := by
  intro g A c E p s w res h hrun
  rw [run_plain] at hrun
  have h0 := h.below (below_alloc (Below.refl _ _) (.cells zeroV 26))
  have hlt := h.lt
  have hne : w.heap.size ≠ g := by omega
  have HH := Lib.hid h
  have B2 := Own.new w zeroV 26
  have P0 : Past g w (w.alloc (.cells zeroV 26)) := Past.of_below (below_alloc (Below.refl _ _) _)
  rcases then_some hrun with ⟨hr, rfl⟩ | ⟨t, s1, hr, he⟩
  · have KP := Lib.hid (HS.none h0 hr)
    clear hr h0 h hrun
    go_enter Tryz.func177, Tryz.ntmps177
    go_wp2_with fail
    refine KP.out.mono ?_
    rintro e wz ⟨hp, b, n, rfl, hb⟩
    have P9 := P0.trans hp
    have HB := Lib.hid hb
    clear hp hb
    go_wp2_with fail
    exact ⟨rfl, P9, _, _, rfl, HB.out⟩
  · have KP := Lib.hid (HS.some h0 hr)
    have HE := Lib.hid he
    clear hr h0 h hrun he
    go_enter Tryz.func177, Tryz.ntmps177
    go_wp2_with fail
    refine KP.out.mono ?_
    rintro e xa ⟨Aa, ca, pa, rfl, hp, hva, hpp, hra⟩
    have hxa : w.heap.size < xa.heap.size := by have := hp.size; (try simp at this); omega
    have hnea : xa.heap.size ≠ g := by omega
    have hnna : w.heap.size ≠ xa.heap.size := by omega
    have Pa := (P0.trans hp).alloc (.cells #[.int .i64 t.f0, .string t.f1, .int .i64 t.f2, .slice Aa t.f3.length ca] 26)
    have B2 := (B2.past hp hne).alloc (.cells #[.int .i64 t.f0, .string t.f1, .int .i64 t.f2, .slice Aa t.f3.length ca] 26)
    have Xa := Own.new xa #[.int .i64 t.f0, .string t.f1, .int .i64 t.f2, .slice Aa t.f3.length ca] 26
    have hva := hva.same ((Same.refl _ _).alloc (.cells #[.int .i64 t.f0, .string t.f1, .int .i64 t.f2, .slice Aa t.f3.length ca] 26))
    (try simp only [World.size_alloc] at hva)
    have hra := hra.below (below_alloc (Below.refl _ _) (.cells #[.int .i64 t.f0, .string t.f1, .int .i64 t.f2, .slice Aa t.f3.length ca] 26))
    have HPPa := Lib.hid hpp
    clear hp hpp
    go_wp2_with fail
    cases hq : isL s1 mSet with
    | true =>
      have K := Lib.hid (take_yes mSet hra hq)
      have he := HE.out
      rw [hq, if_pos rfl] at he
      clear hq hra
      refine K.out.mono ?_
      rintro e w2 ⟨rfl, hp, y, hs, h2⟩
      have P2 := Pa.trans hp
      have B2 := B2.past hp hne
      have Xa := Xa.past hp hnea
      have hva := hva.same (Same.of_past hp (by omega))
      have hN2 : xa.heap.size + 1 ≤ w2.heap.size := by have := hp.size; (try simp at this); omega
      have HS2 := Lib.hid hs
      clear hp hs
      rcases then_some he with ⟨hr, rfl⟩ | ⟨u, sz, hr, hez⟩
      · have PD := P2.drew
        have qa_0 := Xa.cell 0
        have qa_1 := Xa.cell 1
        have qa_2 := Xa.cell 2
        have qa_3 := Xa.cell 3
        have KP := Lib.hid (HO.none (h2.below (below_drew (Below.refl _ _))) hr)
        clear hr h2
        go_wp2_with fail
        refine wp_region_any (by kernel_rfl) ?_
        change wpAny _ _ _ _ _ _ _ (World.drew _)
        refine wpAny_take (i := 1) (v := .pointer (some ⟨g, 0, none⟩)) rfl (by kernel_rfl) (by kernel_rfl) (by kernel_rfl) (fun _ _ _ h => h) (Or.inl ⟨by rfl, ?_⟩) ?_
        · intro w; go_simp
        refine wpAny_ready (rs := [0, 2]) (by kernel_rfl) (by simp) ?_
        refine AllReady.cons rfl (fun K hK => ?_) ?_
        · go_simp
          refine hK _ _ ?_
          clear hK K
          refine wpAny_ready (rs := [2]) (by kernel_rfl) (by simp) ?_
          refine AllReady.cons rfl (fun K hK => ?_) AllReady.nil
          go_simp
          refine KP.out.mono ?_
          rintro e w3 ⟨hp, b, n, rfl, hb⟩
          exact ⟨rfl, PD.trans hp, _, _, rfl, hb⟩
        refine AllReady.cons rfl (fun K hK => ?_) AllReady.nil
        go_simp
        refine KP.out.mono ?_
        rintro e w3 ⟨hp, b, n, rfl, hb⟩
        exact ⟨rfl, PD.trans hp, _, _, rfl, hb⟩
      · have PD := P2.drew
        have B2d : Own w2.drew w.heap.size zeroV 26 := B2
        have Xad : Own w2.drew xa.heap.size #[.int .i64 t.f0, .string t.f1, .int .i64 t.f2, .slice Aa t.f3.length ca] 26 := Xa
        have hvad := hva.same ((Same.refl _ _).drew)
        have qa_0 := Xa.cell 0
        have qa_1 := Xa.cell 1
        have qa_2 := Xa.cell 2
        have qa_3 := Xa.cell 3
        have KP := Lib.hid (HO.some (h2.below (below_drew (Below.refl _ _))) hr)
        have HE := Lib.hid hez
        clear hr h2 hez
        go_wp2_with fail
        go_region_held3 (fun w' => w'.cell? ⟨xa.heap.size, 0, none⟩ = some (.int .i64 t.f0) ∧ w'.cell? ⟨xa.heap.size, 1, none⟩ = some (.string t.f1) ∧ w'.cell? ⟨xa.heap.size, 2, none⟩ = some (.int .i64 t.f2) ∧ w'.cell? ⟨xa.heap.size, 3, none⟩ = some (.slice Aa t.f3.length ca)) (go_keep)
          ((go_at_call 131; refine KP.out.mono ?_; rintro e w3 ⟨A4, c4, pz, rfl, hp, hvz, hppz, hrdz⟩; have B2e := B2d.past hp hne; have qa_0 := (Xad.past hp hnea).cell 0; have qa_1 := (Xad.past hp hnea).cell 1; have qa_2 := (Xad.past hp hnea).cell 2; have qa_3 := (Xad.past hp hnea).cell 3; have B2f := B2e.alloc (.cells #[.int .i64 t.f0, .string t.f1, .int .i64 t.f2, .slice Aa t.f3.length ca, .int .i64 u.f0, .string u.f1, .int .i64 u.f2, .slice A4 u.f3.length c4] 26); have d0 := B2f.cell 0; have d1 := B2f.cell 1; have d2 := B2f.cell 2; have d3 := B2f.cell 3; have dz := fun i => B2f.fz i))
        go_wp2_with fail
        refine ret4 rfl rfl (Own.four B2f) ?_
        have hN3 : w2.heap.size ≤ w3.heap.size := hp.size
        (try simp only [World.size_alloc] at hN3)
        have e1 := HE.out
        injection e1 with e1
        subst e1
        refine Out.ret HH.out (PD.trans hp) (four_set (w3size := 0) (belowN_alloc (by omega) _)) (by rw [hppz, ← HPPa.out, HS2.out]; simp) hrdz ?_
        exact (TmV.kids2 11 noName ((hvad.mono (base' := w.heap.size + 1) (by omega)).same (((Same.of_past hp (by omega)).alloc _).trans (four_same (Same.refl _ _) (by omega)))) ((hvz.mono (by show w.heap.size + 1 ≤ w2.heap.size; (try simp only [World.size_alloc]); omega)).same (((Same.refl _ _).alloc _).trans (four_same (Same.refl _ _) (by omega)))) (four_far (blk_new _ _) (by omega)) (by omega)).mono (by omega)
    | false =>
      have K := Lib.hid (take_no mSet hra hq)
      have he := HE.out
      rw [hq, if_neg (by decide)] at he
      have HE := Lib.hid he
      clear hq hra he
      refine K.out.mono ?_
      rintro e w2 ⟨rfl, hp, h2⟩
      have P2 := Pa.trans hp
      have B2 := B2.past hp hne
      have Xa := Xa.past hp hnea
      have hva := hva.same (Same.of_past hp (by omega))
      have hN2 : xa.heap.size + 1 ≤ w2.heap.size := by have := hp.size; (try simp at this); omega
      have H0 := Lib.hid (Ops.mk (g := g) (A := A) (c := c) (E := E) (p := p) (s := s) (w := w) (xs := xa.heap.size) (b5 := w2.heap.size) (t := t) (Aa := Aa) (ca := ca) (pa := pa) (s1 := s1) (gk := 5) (i := .int .i64 0) (wr := w2.alloc (.cells opVals 9))
        ⟨0, by omega, rfl, rfl, fun o ho => by cases ho⟩ (h2.below (below_alloc (Below.refl _ _) _)) (P2.alloc _) (B2.alloc _) (Xa.alloc _) (Own.new w2 _ _) (hva.same ((Same.refl _ _).alloc _)))
      have hne5 : w2.heap.size ≠ g := by omega
      have hnn5 : w.heap.size ≠ w2.heap.size := by omega
      clear hp h2 P2 B2 Xa hva
      go_wp2_with fail
      go_loopg [17] 5 (fun gk i wr => Ops g A c E p s w xa.heap.size w2.heap.size t Aa ca pa s1 gk i wr)
      case atStart => exact H0.out
      case round =>
        obtain ⟨⟨n, hn, hgk, rfl, hno⟩, hrd, hP, B2, Xa, X5, hva⟩ := hrel
        have HNO := Lib.hid hno
        clear hno H0
        by_cases hlt5 : n < 5
        · have d5 : decide ((n : Int) < 5) = true := by rw [decide_eq_true_eq]; omega
          obtain ⟨op, hop⟩ := op_some hlt5
          have i0 : (0 : Int) ≤ (n : Int) := by omega
          have i1 : (n : Int) < 5 := by omega
          have s5 : wr.cell? ⟨w2.heap.size, n, none⟩ = some (.string op) := (X5.cell n).trans (op_cell hop)
          have HOP := Lib.hid hop
          have HG := Lib.hid hgk
          clear hop hgk
          cases hq : isL s1 op with
          | false =>
            have K := Lib.hid (take_no op hrd hq)
            have HQ := Lib.hid hq
            clear hq hrd
            go_wp2_with fail
            refine K.out.mono ?_
            rintro e w3 ⟨rfl, hp, hrd⟩
            have X5 := X5.past hp hne5
            have B2 := B2.past hp hne
            have Xa := Xa.past hp hnea
            have hP := hP.trans hp
            have hva := hva.same (Same.of_past hp (by omega))
            clear hp
            go_wp2_with fail
            go_roundg (5 - (n + 1))
            case measure => have := HG.out; omega
            case rel =>
              refine ⟨⟨n + 1, by omega, rfl, by go_num, fun o ho => ?_⟩, hrd, hP, B2, Xa, X5, hva⟩
              rw [List.take_add_one, HOP.out] at ho
              rcases List.mem_append.1 ho with h | h
              · exact HNO.out o h
              · have : o = op := by simpa using h
                rw [this]; exact HQ.out
          | true =>
            have K := Lib.hid (take_yes op hrd hq)
            have he := HE.out
            rw [op_find HOP.out hq HNO.out] at he
            clear hq hrd
            go_wp2_with fail
            refine K.out.mono ?_
            rintro e w3' ⟨rfl, hp, y, hs, h2⟩
            have P2 := hP.trans hp
            have B2 := B2.past hp hne
            have Xa := Xa.past hp hnea
            have hw3 : xa.heap.size < w3'.heap.size := Xa.lt
            have hva := hva.same (Same.of_past hp (by omega))
            have HS2 := Lib.hid hs
            clear hp hs X5 s5 hP
            rcases then_some he with ⟨hr, rfl⟩ | ⟨u, sz, hr, hez⟩
            · have PD := P2.drew
              have qa_0 := Xa.cell 0
              have qa_1 := Xa.cell 1
              have qa_2 := Xa.cell 2
              have qa_3 := Xa.cell 3
              have KP := Lib.hid (HS.none (h2.below (below_drew (Below.refl _ _))) hr)
              clear hr h2
              go_wp2_with fail
              refine wp_region_any (by kernel_rfl) ?_
              change wpAny _ _ _ _ _ _ _ (World.drew _)
              refine wpAny_take (i := 0) (v := .string op) rfl (by kernel_rfl) (by kernel_rfl) (by kernel_rfl) (fun _ _ _ h => h) (Or.inl ⟨by rfl, ?_⟩) ?_
              · intro w; go_simp
              refine wpAny_take (i := 2) (v := .pointer (some ⟨g, 0, none⟩)) rfl (by kernel_rfl) (by kernel_rfl) (by kernel_rfl) (fun _ _ _ h => h) (Or.inl ⟨by rfl, ?_⟩) ?_
              · intro w; go_simp
              refine wpAny_ready (rs := [1, 3]) (by kernel_rfl) (by simp) ?_
              refine AllReady.cons rfl (fun K hK => ?_) ?_
              · go_simp
                refine hK _ _ ?_
                clear hK K
                refine wpAny_ready (rs := [3]) (by kernel_rfl) (by simp) ?_
                refine AllReady.cons rfl (fun K hK => ?_) AllReady.nil
                go_simp
                refine KP.out.mono ?_
                rintro e w3 ⟨hp, b, n, rfl, hb⟩
                exact ⟨rfl, PD.trans hp, _, _, rfl, hb⟩
              refine AllReady.cons rfl (fun K hK => ?_) AllReady.nil
              go_simp
              refine KP.out.mono ?_
              rintro e w3 ⟨hp, b, n, rfl, hb⟩
              exact ⟨rfl, PD.trans hp, _, _, rfl, hb⟩
            · have PD := P2.drew
              have B2d : Own w3'.drew w.heap.size zeroV 26 := B2
              have Xad : Own w3'.drew xa.heap.size #[.int .i64 t.f0, .string t.f1, .int .i64 t.f2, .slice Aa t.f3.length ca] 26 := Xa
              have hvad := hva.same ((Same.refl _ _).drew)
              have qa_0 := Xa.cell 0
              have qa_1 := Xa.cell 1
              have qa_2 := Xa.cell 2
              have qa_3 := Xa.cell 3
              have KP := Lib.hid (HS.some (h2.below (below_drew (Below.refl _ _))) hr)
              have HE := Lib.hid hez
              clear hr h2 hez
              go_wp2_with fail
              go_region_held3 (fun w' => w'.cell? ⟨xa.heap.size, 0, none⟩ = some (.int .i64 t.f0) ∧ w'.cell? ⟨xa.heap.size, 1, none⟩ = some (.string t.f1) ∧ w'.cell? ⟨xa.heap.size, 2, none⟩ = some (.int .i64 t.f2) ∧ w'.cell? ⟨xa.heap.size, 3, none⟩ = some (.slice Aa t.f3.length ca)) (go_keep)
                ((go_at_call 197; refine KP.out.mono ?_; rintro e w3 ⟨A4, c4, pz, rfl, hp, hvz, hppz, hrdz⟩; have B2e := B2d.past hp hne; have qa_0 := (Xad.past hp hnea).cell 0; have qa_1 := (Xad.past hp hnea).cell 1; have qa_2 := (Xad.past hp hnea).cell 2; have qa_3 := (Xad.past hp hnea).cell 3; have B2f := B2e.alloc (.cells #[.int .i64 t.f0, .string t.f1, .int .i64 t.f2, .slice Aa t.f3.length ca, .int .i64 u.f0, .string u.f1, .int .i64 u.f2, .slice A4 u.f3.length c4] 26); have d0 := B2f.cell 0; have d1 := B2f.cell 1; have d2 := B2f.cell 2; have d3 := B2f.cell 3; have dz := fun i => B2f.fz i))
              go_wp2_with fail
              refine ret4 rfl rfl (Own.four B2f) ?_
              have hN3 : w3'.heap.size ≤ w3.heap.size := hp.size
              (try simp only [World.size_alloc] at hN3)
              have e1 := HE.out
              injection e1 with e1
              subst e1
              refine Out.ret HH.out (PD.trans hp) (four_set (w3size := 0) (belowN_alloc (by omega) _)) (by rw [hppz, ← HPPa.out, HS2.out]; simp) hrdz ?_
              exact (TmV.kids2 12 op ((hvad.mono (base' := w.heap.size + 1) (by omega)).same (((Same.of_past hp (by omega)).alloc _).trans (four_same (Same.refl _ _) (by omega)))) ((hvz.mono (by show w.heap.size + 1 ≤ w3'.heap.size; (try simp only [World.size_alloc]); omega)).same (((Same.refl _ _).alloc _).trans (four_same (Same.refl _ _) (by omega)))) (four_far (blk_new _ _) (by omega)) (by omega)).mono (by omega)
        · have d5 : decide ((n : Int) < 5) = false := by rw [decide_eq_false_iff_not]; omega
          have hn5 : n = 5 := by omega
          have he := HE.out
          rw [List.find?_eq_none.2 (fun x hx => by rw [HNO.out x (by rw [hn5]; exact hx)]; decide)] at he
          injection he with he
          have HE := Lib.hid he
          clear he hn5 hgk
          have d0 := B2.cell 0
          have d1 := B2.cell 1
          have d2 := B2.cell 2
          have d3 := B2.cell 3
          have dz := fun i => B2.fz i
          have q0 := Xa.cell 0
          have q1 := Xa.cell 1
          have q2 := Xa.cell 2
          have q3 := Xa.cell 3
          go_wp2_with fail
          refine ret4 rfl rfl (Own.four B2) ?_
          have e1 := HE.out
          subst e1
          exact Out.ret HH.out hP (four_set (w3size := 0) (Below.refl _ _)) HPPa.out hrd ((hva.same (four_same (Same.refl _ _) (by omega))).mono (by omega))
/-- All methods, for any number of rounds. -/
theorem reads_all : ∀ k, RH 215 .part k ∧ RH 197 .parts k ∧ RH 177 .plain k ∧ RH 131 .one k ∧ RH 86 .all k
  | 0 => by
    have z : ∀ f m, RH f m 0 := fun f m g A c E p s w res _ h => by cases h
    exact ⟨z _ _, z _ _, z _ _, z _ _, z _ _⟩
  | k + 1 => by
    obtain ⟨h1, h2, h3, h4, h5⟩ := reads_all k
    exact ⟨part_step k h1 h5, parts_step k h1, plain_step k h2 h4, one_step k h5 h4 h3, all_step k h4 h5⟩
theorem allC {g : Nat} {A : Option Addr} {c : Nat} {E : Value} {p s : List TokT} {w : World} (h : Rd g A c E p s w) :
    Calls Tryz.prog 86 #[.pointer (some ⟨g, 0, none⟩)] w fun e w' => Out g A c E p s w (parseL s) e w' :=
  (reads_all _).2.2.2.2 g A c E p s w _ h (parseL_run s)
end Go.Proofs.YtchekgnacodolaaGreatDoor.X
/- chancel/parse.read: all tokens as a term; what was deferred takes the fault. -/
namespace Go.Proofs.YtchekgnacodolaaGreatDoor.X
open Go.RowKit Go.Proofs.YtchekgnacodolaaGreatDoorW.PrintWords Go.Proofs.YtchekgnacodolaaGreatDoorW.PrintLast Go.Proofs.YtchekgnacodolaaGreatDoorW.PrintMore
set_option linter.unusedSimpArgs false
set_option linter.unusedVariables false

theorem assert_fault (pv : Addr) (w : World) : (Instr.typeAssert (.iface 140 (.pointer (some pv))) 20 140 true).run Tryz.prog w = .ok (.tuple #[.pointer (some pv), .bool true]) w := by kernel_rfl
theorem assert_nil (w : World) : (Instr.typeAssert .nilIface 20 140 true).run Tryz.prog w = .ok (.tuple #[.pointer none, .bool false]) w := by kernel_rfl
set_option maxRecDepth 100000 in
set_option maxHeartbeats 1000000 in
theorem catch_fault (b2 b3 : Nat) (x0 x1 x2 x3 y : Value) (pv : Addr) (w : World) (h2 : Own w b2 #[x0, x1, x2, x3] 26) (h3 : Own w b3 #[y] 94) (hne : b2 ≠ b3) :
    CallsD Tryz.prog 85 #[.pointer (some ⟨b2, 0, none⟩), .pointer (some ⟨b3, 0, none⟩)] (.panicking ({ v := .iface 140 (.pointer (some pv)), recovered := false } :: [])) w fun e u' w' =>
      e = .returned (.tuple #[]) ∧ u' = .panicking ({ v := .iface 140 (.pointer (some pv)), recovered := true } :: []) ∧
      w' = ((((w.setCell ⟨b2, 0, none⟩ (.int .i64 0)).setCell ⟨b2, 1, none⟩ (.string ⟨#[]⟩)).setCell ⟨b2, 2, none⟩ (.int .i64 0)).setCell ⟨b2, 3, none⟩ (.slice none 0 0)).setCell ⟨b3, 0, none⟩ (.iface 140 (.pointer (some pv))) := by
  have d0 := h2.cell 0
  have d1 := h2.cell 1
  have d2 := h2.cell 2
  have d3 := h2.cell 3
  have dz := fun i => h2.fz i
  have H3 : Own ((((w.setCell ⟨b2, 0, none⟩ (.int .i64 0)).setCell ⟨b2, 1, none⟩ (.string ⟨#[]⟩)).setCell ⟨b2, 2, none⟩ (.int .i64 0)).setCell ⟨b2, 3, none⟩ (.slice none 0 0)) b3 #[y] 94 := four_far h3 (Ne.symm hne)
  have e0 := H3.cell 0
  have ez := H3.fz 0
  clear H3 h2 h3
  refine callsD_of_wpS Tryz.func85 rfl fun c₀ cs hu => ?_
  apply wpS_seq
  apply wpS_region
  simp [wpOpsS, go_sem, recoverD, hu, Tryz.ntmps85, Exit.thenS, assert_fault]
  apply wpS_seq
  apply wpS_region
  simp [wpOpsS, go_sem, Exit.thenS]
  refine wpS_cond (t := true) (by simp [Act.eval, Array.replicate]) ?_
  simp only [if_true]
  apply wpS_region
  simp [wpOpsS, go_sem, d0, d1, d2, d3, dz, e0, ez, bodyPostS, results, Tryz.results85]
set_option maxRecDepth 100000 in
set_option maxHeartbeats 1000000 in
theorem catch_idle (p2 p3 : Addr) (w : World) :
    CallsD Tryz.prog 85 #[.pointer (some p2), .pointer (some p3)] .returning w fun e u' w' => e = .returned (.tuple #[]) ∧ u' = .returning ∧ w' = w := by
  refine callsD_of_wpS Tryz.func85 rfl fun c₀ cs hu => ?_
  apply wpS_seq
  apply wpS_region
  simp [wpOpsS, go_sem, recoverD, hu, Tryz.ntmps85, Exit.thenS, assert_nil]
  apply wpS_seq
  apply wpS_region
  simp [wpOpsS, go_sem, Exit.thenS]
  refine wpS_cond (t := false) (by simp [Act.eval, Array.replicate]) ?_
  simp only [Bool.false_eq_true, if_false]
  refine wpS_of_wp (wp_skip ?_)
  cases c₀
  simp_all [bodyPostS, results, Tryz.results85]

set_option maxRecDepth 100000 in
set_option maxHeartbeats 400000 in
theorem failC0 (g : Nat) (n : Int) (te : TypeId) (ve : Value) (w : World) (c1 : w.cell? ⟨g, 1, none⟩ = some (.int .i64 n)) (err : w.cell? ⟨0, 0, none⟩ = some (.iface te ve)) :
    Calls Tryz.prog 87 #[.pointer (some ⟨g, 0, none⟩)] w fun e w' => Fails g (.iface te ve) w e w' := by
  have n0 := World.new_ne w _ c1
  have n1 := World.new_ne w _ err
  go_enter Tryz.func87, Tryz.ntmps87
  go_wp2_with fail
  go_still_tail 6, (by kernel_rfl)
  change wpList _ _ _ _ _ w.drew
  go_wp2_with fail
  refine ⟨rfl, ?_⟩
  exact ⟨Past.of_below (below_drew (below_alloc (Below.refl _ _) _)), _, _, rfl, blk_drew (blk_new _ _)⟩

/-- What read tells. -/
def Read (E : Value) (w : World) (res : Option (Tm × List TokT)) (e : Ending) (w' : World) : Prop :=
  Below w.heap.size w w' ∧ match res with
  | some (t, []) => ∃ v, e = .returned (.tuple #[v, .nilIface]) ∧ TmV w.heap.size w' t v
  | _ => ∃ b n, e = .returned (.tuple #[.agg #[.int .i64 0, .string ⟨#[]⟩, .int .i64 0, .slice none 0 0], .iface 140 (.pointer (some ⟨b, 0, none⟩))]) ∧ w'.heap[b]? = some (.cells #[.int .i64 n, E] 188 (0, 0))
theorem Past.belowNew {g : Nat} {w w1 w' : World} (h : Past g w1 w') (hb : Below w.heap.size w w1) (hg : w.heap.size ≤ g) : Below w.heap.size w w' :=
  ⟨h.os.trans hb.os, h.tape.trans hb.tape, h.output.trans hb.output, Nat.le_trans hb.size h.size, fun k hk => (h.block k (Nat.lt_of_lt_of_le hk hb.size) (by omega)).trans (hb.block k hk)⟩
theorem results_read {tmps : Array Value} {w : World} {N M : Nat} {a b c d e : Value} (hp : tmps.getD 2 undef = .pointer (some ⟨N, 0, none⟩)) (hq : tmps.getD 3 undef = .pointer (some ⟨M, 0, none⟩)) (h2 : Own w N #[a, b, c, d] 26) (h3 : Own w M #[e] 94) :
    (results Tryz.f50 tmps).run Tryz.prog w = .ok (.tuple #[.agg #[a, b, c, d], e]) w := by
  have hp' : tmps[2]?.getD undef = .pointer (some ⟨N, 0, none⟩) := by simpa using hp
  have hq' : tmps[3]?.getD undef = .pointer (some ⟨M, 0, none⟩) := by simpa using hq
  have e0 : w.cell? ⟨M, 0, none⟩ = some e := h3.cell 0
  have d0 : w.cell? ⟨N, 0, none⟩ = some a := h2.cell 0
  have d1 : w.cell? ⟨N, 1, none⟩ = some b := h2.cell 1
  have d2 : w.cell? ⟨N, 2, none⟩ = some c := h2.cell 2
  have d3 : w.cell? ⟨N, 3, none⟩ = some d := h2.cell 3
  simp [results, Tryz.results50, hp', hq', go_sem, e0, d0, d1, d2, d3]
set_option maxRecDepth 100000 in
set_option maxHeartbeats 4000000 in
theorem readC (A : Option Addr) (c : Nat) (l : List TokT) (te : TypeId) (ve : Value) (w : World) (hr : Reads w A c l) (he : w.cell? ⟨0, 0, none⟩ = some (.iface te ve)) :
    Calls Tryz.prog 50 #[.slice A l.length c] w fun e w' => Read (.iface te ve) w (parseL l) e w' := by
  have hmf : ∀ (fn : Fn) (first cap : Array Value) (w : World), (Instr.makeFunc fn first cap).run Tryz.prog w = .ok (.func fn first cap) w := fun _ _ _ _ => rfl
  have herr := cell_lt he
  have hW : Below w.heap.size w (((w.alloc (.cells zeroV 26)).alloc (.cells #[.nilIface] 94)).alloc (.cells #[.slice A l.length c, .int .i64 0] 144)) :=
    ((below_alloc (below_alloc (below_alloc (Below.refl _ _) _) _) _))
  have hR : Rd (w.heap.size + 1 + 1) A c (.iface te ve) [] l (((w.alloc (.cells zeroV 26)).alloc (.cells #[.nilIface] 94)).alloc (.cells #[.slice A l.length c, .int .i64 0] 144)) := by
    refine ⟨?_, hr.below hW, fun h0 ad hA => ?_, (hW.cell herr).trans he, by simp only at herr; omega, te, ve, rfl⟩
    · have := blk_new ((w.alloc (.cells zeroV 26)).alloc (.cells #[.nilIface] 94)) (.cells #[.slice A l.length c, .int .i64 0] 144)
      simpa using this
    · obtain ⟨ad', hA', hc⟩ := hr.1.2.2 h0
      rw [hA] at hA'
      injection hA' with e
      subst e
      obtain ⟨cs, _, hk, hcell⟩ := hc 0 (l[0]'h0) (List.getElem?_eq_getElem h0)
      have := cell_lt (hcell 0 _ (by rw [k106_open hk]; rfl))
      rw [add_block] at this
      omega
  have B2 : Own (((w.alloc (.cells zeroV 26)).alloc (.cells #[.nilIface] 94)).alloc (.cells #[.slice A l.length c, .int .i64 0] 144)) w.heap.size zeroV 26 := ((Own.new w zeroV 26).alloc _).alloc _
  have B3 : Own (((w.alloc (.cells zeroV 26)).alloc (.cells #[.nilIface] 94)).alloc (.cells #[.slice A l.length c, .int .i64 0] 144)) (w.heap.size + 1) #[.nilIface] 94 := by
    have := (Own.new (w.alloc (.cells zeroV 26)) #[.nilIface] 94).alloc (.cells #[.slice A l.length c, .int .i64 0] 144)
    simpa using this
  have KA := allC hR
  have HW := Lib.hid hW
  clear hR hW he hr
  rcases hres : parseL l with _ | ⟨t, s'⟩
  · rw [hres] at KA
    have KA := Lib.hid KA
    clear hres
    go_enter_defers Tryz.func50, Tryz.ntmps50
    go_wp2_with fail
    refine KA.out.mono ?_
    rintro e w1 ⟨hp, b, n, rfl, hb⟩
    have B2 := B2.past hp (by omega)
    have B3 := B3.past hp (by omega)
    have HB := Lib.hid hb
    have HP := Lib.hid hp
    clear hb hp
    go_wp2_with fail
    refine leaves_cons (f := 85) (args := #[.pointer (some ⟨w.heap.size, 0, none⟩), .pointer (some ⟨w.heap.size + 1, 0, none⟩)]) (by simp) (by simp [go_sem]) ?_
    refine (catch_fault w.heap.size (w.heap.size + 1) _ _ _ _ _ ⟨b, 0, none⟩ _ B2 B3 (by omega)).mono ?_
    rintro e u' w'' ⟨rfl, rfl, rfl⟩
    have C2 : Own _ w.heap.size _ 26 := blk_far (p := ⟨w.heap.size + 1, 0, none⟩) (Own.four B2 (a := .int .i64 0) (b := .string ⟨#[]⟩) (c := .int .i64 0) (d := .slice none 0 0)) (by show w.heap.size ≠ w.heap.size + 1; omega) (.iface 140 (.pointer (some ⟨b, 0, none⟩)))
    have C3 : Own _ (w.heap.size + 1) _ 94 := blk_set (four_far (N := w.heap.size) (a := .int .i64 0) (b := .string ⟨#[]⟩) (c := .int .i64 0) (d := .slice none 0 0) B3 (by omega)) 0 (.iface 140 (.pointer (some ⟨b, 0, none⟩)))
    refine ⟨_, results_read rfl rfl C2 C3, ?_, b, n, rfl, ?_⟩
    · exact ((four_set (w3size := 0) (HP.out.belowNew HW.out (by omega))).setCell (by show w.heap.size ≤ w.heap.size + 1; omega) _)
    · exact blk_far (p := ⟨w.heap.size + 1, 0, none⟩) (four_far HB.out (fun e => by subst e; have := HB.out; rw [show w1.heap[w.heap.size]? = _ from B2] at this; injection this with this; injection this with _ this; exact absurd this (by decide))) (fun e => by have e' : b = w.heap.size + 1 := e; subst e'; have := HB.out; rw [show w1.heap[w.heap.size + 1]? = _ from B3] at this; injection this with this; injection this with _ this; exact absurd this (by decide)) _
  · rw [hres] at KA
    clear hres
    cases s' with
    | nil =>
      have KA := Lib.hid KA
      go_enter_defers Tryz.func50, Tryz.ntmps50
      go_wp2_with fail
      refine KA.out.mono ?_
      rintro e w1 ⟨hp, v, p', rfl, hv, hpp, hrd⟩
      obtain ⟨A3, c3, rfl, hl, hC⟩ := hv
      have hv : TmV (w.heap.size + 1 + 1 + 1) w1 t (.agg #[.int .i64 t.f0, .string t.f1, .int .i64 t.f2, .slice A3 t.f3.length c3]) := TmV.mono ⟨A3, c3, rfl, hl, hC⟩ (by simp)
      have B2 := B2.past hp (by omega)
      have B3 := B3.past hp (by omega)
      have HP := Lib.hid hp
      have hpl : p'.length = l.length := by have := congrArg List.length hpp; simpa using this
      have hd : decide (p'.length < l.length) = false := by rw [decide_eq_false_iff_not]; omega
      have d0 := B2.cell 0
      have d1 := B2.cell 1
      have d2 := B2.cell 2
      have d3 := B2.cell 3
      have dz := fun i => B2.fz i
      have C2 := Own.four B2 (a := .int .i64 t.f0) (b := .string t.f1) (c := .int .i64 t.f2) (d := .slice A3 t.f3.length c3)
      have C3 : Own _ (w.heap.size + 1) #[.nilIface] 94 := four_far (N := w.heap.size) (a := .int .i64 t.f0) (b := .string t.f1) (c := .int .i64 t.f2) (d := .slice A3 t.f3.length c3) B3 (by omega)
      have G3 : Own _ (w.heap.size + 1 + 1) #[.slice A (p' ++ []).length c, .int .i64 (p'.length : Int)] 144 := four_far (N := w.heap.size) (a := .int .i64 t.f0) (b := .string t.f1) (c := .int .i64 t.f2) (d := .slice A3 t.f3.length c3) hrd.blk (by omega)
      have g1 := G3.cell 1
      have f0 := C2.cell 0
      have f1 := C2.cell 1
      have f2 := C2.cell 2
      have f3 := C2.cell 3
      have fz := fun i => C2.fz i
      have D2 := Own.four C2 (a := .int .i64 t.f0) (b := .string t.f1) (c := .int .i64 t.f2) (d := .slice A3 t.f3.length c3)
      have D3 : Own _ (w.heap.size + 1) #[.nilIface] 94 := four_far (N := w.heap.size) (a := .int .i64 t.f0) (b := .string t.f1) (c := .int .i64 t.f2) (d := .slice A3 t.f3.length c3) C3 (by omega)
      have k0 := D3.cell 0
      have kz := D3.fz 0
      clear hp hpp hl hC hpl
      go_wp2_with fail
      refine leaves_cons (f := 85) (args := #[.pointer (some ⟨w.heap.size, 0, none⟩), .pointer (some ⟨w.heap.size + 1, 0, none⟩)]) (by simp) (by simp [go_sem]) ?_
      refine (catch_idle ⟨w.heap.size, 0, none⟩ ⟨w.heap.size + 1, 0, none⟩ _).mono ?_
      rintro e u' w'' ⟨rfl, rfl, rfl⟩
      simp only [Leaves, settle]
      refine ⟨_, results_read rfl rfl (blk_far D2 (p := ⟨w.heap.size + 1, 0, none⟩) (by show w.heap.size ≠ w.heap.size + 1; omega) _) (blk_set D3 0 .nilIface), ?_, _, rfl, ?_⟩
      · exact ((four_set (w3size := 0) (four_set (w3size := 0) (HP.out.belowNew HW.out (by omega)))).setCell (by show w.heap.size ≤ w.heap.size + 1; omega) _)
      · exact (hv.same (((four_same (four_same (Same.refl _ _) (by omega)) (by omega))).set (by show w.heap.size + 1 < w.heap.size + 1 + 1 + 1; omega) _)).mono (by omega)
    | cons x s' =>
      have KA := Lib.hid KA
      go_enter_defers Tryz.func50, Tryz.ntmps50
      go_wp2_with fail
      refine KA.out.mono ?_
      rintro e w1 ⟨hp, v, p', rfl, hv, hpp, hrd⟩
      obtain ⟨A3, c3, rfl, hl, hC⟩ := hv
      have B2 := B2.past hp (by omega)
      have B3 := B3.past hp (by omega)
      have hpl : p'.length < l.length := by have := congrArg List.length hpp; simp at this; omega
      have hd : decide (p'.length < l.length) = true := by rw [decide_eq_true_eq]; exact hpl
      have d0 := B2.cell 0
      have d1 := B2.cell 1
      have d2 := B2.cell 2
      have d3 := B2.cell 3
      have dz := fun i => B2.fz i
      have C2 := Own.four B2 (a := .int .i64 t.f0) (b := .string t.f1) (c := .int .i64 t.f2) (d := .slice A3 t.f3.length c3)
      have C3 : Own _ (w.heap.size + 1) #[.nilIface] 94 := four_far (N := w.heap.size) (a := .int .i64 t.f0) (b := .string t.f1) (c := .int .i64 t.f2) (d := .slice A3 t.f3.length c3) B3 (by omega)
      have G3 : Own _ (w.heap.size + 1 + 1) #[.slice A (p' ++ x :: s').length c, .int .i64 (p'.length : Int)] 144 := four_far (N := w.heap.size) (a := .int .i64 t.f0) (b := .string t.f1) (c := .int .i64 t.f2) (d := .slice A3 t.f3.length c3) hrd.blk (by omega)
      have g1 := G3.cell 1
      have b5 : Below w.heap.size w ((((w1.setCell ⟨w.heap.size, 0, none⟩ (.int .i64 t.f0)).setCell ⟨w.heap.size, 1, none⟩ (.string t.f1)).setCell ⟨w.heap.size, 2, none⟩ (.int .i64 t.f2)).setCell ⟨w.heap.size, 3, none⟩ (.slice A3 t.f3.length c3)) := four_set (w3size := 0) (hp.belowNew HW.out (by omega))
      have er := hrd.err
      have er4 := (Below.cell (w := w1) (B := w.heap.size) (p := ⟨0, 0, none⟩) (four_set (w3size := 0) (a := .int .i64 t.f0) (b := .string t.f1) (c := .int .i64 t.f2) (d := .slice A3 t.f3.length c3) (Below.refl _ _)) herr).trans er
      have KF := Lib.hid (failC0 (w.heap.size + 1 + 1) (p'.length : Int) te ve _ g1 er4)
      have HB5 := Lib.hid b5
      clear hp hpp hl hC hpl er er4 b5 hrd
      go_wp2_with fail
      refine KF.out.mono ?_
      rintro e w5 ⟨hp, b, n, rfl, hb⟩
      have F2 := C2.past hp (by omega)
      have F3 := C3.past hp (by omega)
      have HB := Lib.hid hb
      have HP := Lib.hid hp
      have b5 := HB5.out
      clear hb hp
      go_wp2_with fail
      refine leaves_cons (f := 85) (args := #[.pointer (some ⟨w.heap.size, 0, none⟩), .pointer (some ⟨w.heap.size + 1, 0, none⟩)]) (by simp) (by simp [go_sem]) ?_
      refine (catch_fault w.heap.size (w.heap.size + 1) _ _ _ _ _ ⟨b, 0, none⟩ _ F2 F3 (by omega)).mono ?_
      rintro e u' w'' ⟨rfl, rfl, rfl⟩
      have C2 : Own _ w.heap.size _ 26 := blk_far (p := ⟨w.heap.size + 1, 0, none⟩) (Own.four F2 (a := .int .i64 0) (b := .string ⟨#[]⟩) (c := .int .i64 0) (d := .slice none 0 0)) (by show w.heap.size ≠ w.heap.size + 1; omega) (.iface 140 (.pointer (some ⟨b, 0, none⟩)))
      have C3 : Own _ (w.heap.size + 1) _ 94 := blk_set (four_far (N := w.heap.size) (a := .int .i64 0) (b := .string ⟨#[]⟩) (c := .int .i64 0) (d := .slice none 0 0) F3 (by omega)) 0 (.iface 140 (.pointer (some ⟨b, 0, none⟩)))
      refine ⟨_, results_read rfl rfl C2 C3, ?_, b, n, rfl, ?_⟩
      · exact ((four_set (w3size := 0) (HP.out.belowNew b5 (by omega))).setCell (by show w.heap.size ≤ w.heap.size + 1; omega) _)
      · exact blk_far (p := ⟨w.heap.size + 1, 0, none⟩) (four_far HB.out (fun e => by subst e; have := HB.out; rw [show w5.heap[w.heap.size]? = _ from F2] at this; injection this with this; injection this with _ this; exact absurd this (by decide))) (fun e => by have e' : b = w.heap.size + 1 := e; subst e'; have := HB.out; rw [show w5.heap[w.heap.size + 1]? = _ from F3] at this; injection this with this; injection this with _ this; exact absurd this (by decide)) _
end Go.Proofs.YtchekgnacodolaaGreatDoor.X

-- Joined by our own program (wip/tools/prune.py) out of the seat's texts, less what this claim doesn't name.
import Derived.Deep.RegionHeld3
import Derived.Deep.RegionWith
import Derived.Test.YtchekgnacodolaaGreatDoorJ17
section
namespace Go.Proofs.YtchekgnacodolaaGreatDoor.X
open Go.RowKit Go.Proofs.YtchekgnacodolaaGreatDoorW.PrintWords Go.Proofs.YtchekgnacodolaaGreatDoorW.PrintLast Go.Proofs.YtchekgnacodolaaGreatDoorW.PrintMore
set_option linter.unusedSimpArgs false
set_option linter.unusedVariables false
theorem run_all (k : Nat) (s : List TokT) : run (k + 1) .all s = (run k .one s).then_ fun t s => if isL s mSeq = true then (run k .all s.tail).then_ fun u s => PR.ret (tm 13 noName [t, u]) s else PR.ret t s := rfl
set_option maxRecDepth 100000 in
set_option maxHeartbeats 4000000 in
theorem all_step (k : Nat) (HO : RH 131 .one k) (HA : RH 86 .all k) : RH 86 .all (k + 1) := by
  intro g A c E p s w res h hrun
  rw [run_all] at hrun
  have h0 := h.below (below_alloc (Below.refl _ _) (.cells zeroV 26))
  have hlt := h.lt
  have hne : w.heap.size ≠ g := by omega
  have HH := Lib.hid h
  have B2 := Own.new w zeroV 26
  have P0 : Past g w (w.alloc (.cells zeroV 26)) := Past.of_below (below_alloc (Below.refl _ _) _)
  rcases then_some hrun with ⟨hr, rfl⟩ | ⟨t, s', hr, he⟩
  · have KP := Lib.hid (HO.none h0 hr)
    clear hr h0 h hrun
    go_enter Tryz.func86, Tryz.ntmps86
    go_wp2_with fail
    refine KP.out.mono ?_
    rintro e w1 ⟨hp, b, n, rfl, hb⟩
    have P1 := P0.trans hp
    have HB := Lib.hid hb
    clear hp hb
    go_wp2_with fail
    exact ⟨rfl, P1, _, _, rfl, HB.out⟩
  · have KP := Lib.hid (HO.some h0 hr)
    have HE := Lib.hid he
    clear hr h0 h hrun he
    go_enter Tryz.func86, Tryz.ntmps86
    go_wp2_with fail
    refine KP.out.mono ?_
    rintro e w1 ⟨A3, c3, p', rfl, hp, hv, hpp, hrd⟩
    have hN1 : w.heap.size < w1.heap.size := by have := hp.size; simp at this; omega
    have hne1 : w1.heap.size ≠ g := by omega
    have hnn : w.heap.size ≠ w1.heap.size := by omega
    have P1 := (P0.trans hp).alloc (.cells #[.int .i64 t.f0, .string t.f1, .int .i64 t.f2, .slice A3 t.f3.length c3] 26)
    have B2 := (B2.past hp hne).alloc (.cells #[.int .i64 t.f0, .string t.f1, .int .i64 t.f2, .slice A3 t.f3.length c3] 26)
    have B3 := Own.new w1 #[.int .i64 t.f0, .string t.f1, .int .i64 t.f2, .slice A3 t.f3.length c3] 26
    have hv := hv.same ((Same.refl _ _).alloc (.cells #[.int .i64 t.f0, .string t.f1, .int .i64 t.f2, .slice A3 t.f3.length c3] 26))
    have hrd := hrd.below (below_alloc (Below.refl _ _) (.cells #[.int .i64 t.f0, .string t.f1, .int .i64 t.f2, .slice A3 t.f3.length c3] 26))
    have HPP := Lib.hid hpp
    clear hp hpp
    simp only [World.size_alloc] at hv
    cases hq : isL s' mSeq with
    | false =>
      have K := Lib.hid (take_no mSeq hrd hq)
      have he := HE.out
      rw [hq, if_neg (by decide)] at he
      injection he with he
      have HE := Lib.hid he
      clear hq he hrd
      go_wp2_with fail
      refine K.out.mono ?_
      rintro e w2 ⟨rfl, hp, hrd⟩
      have P2 := P1.trans hp
      have B2 := B2.past hp hne
      have B3 := B3.past hp hne1
      have hv := hv.same (Same.of_past hp (by omega))
      have d0 := B2.cell 0
      have d1 := B2.cell 1
      have d2 := B2.cell 2
      have d3 := B2.cell 3
      have dz := fun i => B2.fz i
      have q0 := B3.cell 0
      have q1 := B3.cell 1
      have q2 := B3.cell 2
      have q3 := B3.cell 3
      clear hp
      go_wp2_with fail
      refine ret4 rfl rfl (Own.four B2) ?_
      have e1 := HE.out
      subst e1
      exact Out.ret HH.out P2 (four_set (w3size := 0) (Below.refl _ _)) HPP.out hrd ((hv.same (four_same (Same.refl _ _) (by omega))).mono (by omega))
    | true =>
      have K := Lib.hid (take_yes mSeq hrd hq)
      have he := HE.out
      rw [hq, if_pos rfl] at he
      clear hq hrd
      rcases then_some he with ⟨hr, rfl⟩ | ⟨u, s2, hr, he2⟩
      · have HR := Lib.hid hr
        clear hr he HE
        go_wp2_with fail
        refine K.out.mono ?_
        rintro e w2 ⟨rfl, hp, y, hs, hrd⟩
        have P2 := P1.trans hp
        have B3 := B3.past hp hne1
        have q0 := B3.cell 0
        have q1 := B3.cell 1
        have q2 := B3.cell 2
        have q3 := B3.cell 3
        have KP := Lib.hid (HA.none (hrd.below (below_drew (Below.refl _ _))) HR.out)
        have P2 := P2.drew
        clear hp hs
        go_wp2_with fail
        refine wp_region_any (by kernel_rfl) ?_
        change wpAny _ _ _ _ _ _ _ (World.drew _)
        refine wpAny_take (i := 1) (v := .pointer (some ⟨g, 0, none⟩)) rfl (by kernel_rfl) (by kernel_rfl) (by kernel_rfl) (fun _ _ _ h => h) (Or.inl ⟨by rfl, ?_⟩) ?_
        · intro w; go_simp
        refine wpAny_ready (rs := [0, 2]) (by kernel_rfl) (by simp) ?_
        refine AllReady.cons rfl (fun K hK => ?_) ?_
        · go_simp
          refine hK _ _ ?_
          clear hK K
          refine wpAny_ready (rs := [2]) (by kernel_rfl) (by simp) ?_
          refine AllReady.cons rfl (fun K hK => ?_) AllReady.nil
          go_simp
          refine KP.out.mono ?_
          rintro e w3 ⟨hp, b, n, rfl, hb⟩
          exact ⟨rfl, P2.trans hp, _, _, rfl, hb⟩
        · refine AllReady.cons rfl (fun K hK => ?_) AllReady.nil
          go_simp
          refine KP.out.mono ?_
          rintro e w3 ⟨hp, b, n, rfl, hb⟩
          exact ⟨rfl, P2.trans hp, _, _, rfl, hb⟩
      · have HR := Lib.hid hr
        have HE := Lib.hid he2
        clear hr he he2
        go_wp2_with fail
        refine K.out.mono ?_
        rintro e w2 ⟨rfl, hp, y, hs, hrd⟩
        have P2 := P1.trans hp
        have B2 := B2.past hp hne
        have B3 := B3.past hp hne1
        have hN2 : w1.heap.size < w2.heap.size := by have := hp.size; simp at this; omega
        have hv := hv.same (Same.of_past hp (by omega))
        have q0 := B3.cell 0
        have q1 := B3.cell 1
        have q2 := B3.cell 2
        have q3 := B3.cell 3
        have HS := Lib.hid hs
        have KP := Lib.hid (HA.some (hrd.below (below_drew (Below.refl _ _))) HR.out)
        have B2d : Own w2.drew w.heap.size zeroV 26 := B2
        have B3d : Own w2.drew w1.heap.size #[.int .i64 t.f0, .string t.f1, .int .i64 t.f2, .slice A3 t.f3.length c3] 26 := B3
        have P2d := P2.drew
        have hvd := hv.same ((Same.refl _ _).drew)
        clear hp hs
        go_wp2_with fail
        go_region_held3 (fun w' => w'.cell? ⟨w1.heap.size, 0, none⟩ = some (.int .i64 t.f0) ∧ w'.cell? ⟨w1.heap.size, 1, none⟩ = some (.string t.f1) ∧ w'.cell? ⟨w1.heap.size, 2, none⟩ = some (.int .i64 t.f2) ∧ w'.cell? ⟨w1.heap.size, 3, none⟩ = some (.slice A3 t.f3.length c3)) (go_keep)
          ((go_at_call 86; refine KP.out.mono ?_; rintro e w3 ⟨A4, c4, p2, rfl, hp, hv2, hpp, hrd2⟩; have B2e := B2d.past hp hne; have q0 := (B3d.past hp hne1).cell 0; have q1 := (B3d.past hp hne1).cell 1; have q2 := (B3d.past hp hne1).cell 2; have q3 := (B3d.past hp hne1).cell 3; have B2f := B2e.alloc (.cells #[.int .i64 t.f0, .string t.f1, .int .i64 t.f2, .slice A3 t.f3.length c3, .int .i64 u.f0, .string u.f1, .int .i64 u.f2, .slice A4 u.f3.length c4] 26); have d0 := B2f.cell 0; have d1 := B2f.cell 1; have d2 := B2f.cell 2; have d3 := B2f.cell 3; have dz := fun i => B2f.fz i))
        go_wp2_with fail
        refine ret4 rfl rfl (Own.four B2f) ?_
        have hN3 : w2.heap.size ≤ w3.heap.size := hp.size
        have e1 := HE.out
        injection e1 with e1
        subst e1
        refine Out.ret HH.out (P2d.trans hp) (four_set (w3size := 0) (belowN_alloc (by omega) _)) (by rw [hpp, ← HPP.out, HS.out]; simp) hrd2 ?_
        exact (TmV.kids2 13 noName (hvd.same (((Same.of_past hp (by omega)).alloc _).trans (four_same (Same.refl _ _) (by omega)))) ((hv2.mono (by show w.heap.size + 1 ≤ w2.heap.size; omega)).same (((Same.refl _ _).alloc _).trans (four_same (Same.refl _ _) (by omega)))) (four_far (blk_new _ _) (by omega)) (by omega)).mono (by omega)
structure SameX (ok : Nat → Prop) (w w' : World) : Prop where
  size : w.heap.size ≤ w'.heap.size
  block : ∀ b, ok b → b < w.heap.size → w'.heap[b]? = w.heap[b]?
theorem SameX.trans {ok : Nat → Prop} {a b c : World} (h : SameX ok a b) (k : SameX ok b c) : SameX ok a c := ⟨Nat.le_trans h.size k.size, fun i hi hl => (k.block i hi (Nat.lt_of_lt_of_le hl h.size)).trans (h.block i hi hl)⟩
theorem SameX.of_past {g : Nat} {ok : Nat → Prop} {w w' : World} (h : Past g w w') (hg : ∀ b, ok b → b ≠ g) : SameX ok w w' := ⟨h.size, fun b hb hl => h.block b hl (hg b hb)⟩
theorem SameX.of_below {ok : Nat → Prop} {w w' : World} (h : Below w.heap.size w w') : SameX ok w w' := ⟨h.size, fun b _ hl => h.block b hl⟩
theorem SameX.four {ok : Nat → Prop} {N : Nat} {w : World} {a b c d : Value} (hN : ∀ b, ok b → b ≠ N) : SameX ok w ((((w.setCell ⟨N, 0, none⟩ a).setCell ⟨N, 1, none⟩ b).setCell ⟨N, 2, none⟩ c).setCell ⟨N, 3, none⟩ d) :=
  ⟨by simp [World.setCell], fun k hk _ => (Below.heap_setCell _ _ _ k (hN k hk)).trans ((Below.heap_setCell _ _ _ k (hN k hk)).trans ((Below.heap_setCell _ _ _ k (hN k hk)).trans (Below.heap_setCell _ _ _ k (hN k hk))))⟩
def TmX (ok : Nat → Prop) (w : World) (t : Tm) (v : Value) : Prop := ∃ A c, v = .agg #[.int .i64 t.f0, .string t.f1, .int .i64 t.f2, .slice A t.f3.length c] ∧ t.f3.length ≤ c ∧ ∀ w2, SameX ok w w2 → Kd.C k26 w2 A t.f3.length t.f3
theorem TmX.same {ok : Nat → Prop} {w w1 : World} {t : Tm} {v : Value} (h : TmX ok w t v) (hp : SameX ok w w1) : TmX ok w1 t v := by
  obtain ⟨A, c, rfl, hl, hC⟩ := h
  exact ⟨A, c, rfl, hl, fun w2 h2 => hC w2 (hp.trans h2)⟩
theorem TmV.toX {base : Nat} {ok : Nat → Prop} {w : World} {t : Tm} {v : Value} (h : TmV base w t v) (hok : ∀ b, base ≤ b → b < w.heap.size → ok b) : TmX ok w t v := by
  obtain ⟨A, c, rfl, hl, hC⟩ := h
  exact ⟨A, c, rfl, hl, fun w2 h2 => hC w2 ⟨h2.size, fun b hb hlt => h2.block b (hok b hb hlt) hlt⟩⟩
theorem TmX.toV {base : Nat} {ok : Nat → Prop} {w : World} {t : Tm} {v : Value} (h : TmX ok w t v) (hok : ∀ b, ok b → base ≤ b) : TmV base w t v := by
  obtain ⟨A, c, rfl, hl, hC⟩ := h
  exact ⟨A, c, rfl, hl, fun w2 h2 => hC w2 ⟨h2.size, fun b hb hlt => h2.block b (hok b hb) hlt⟩⟩
theorem TmX.kids2 {ok : Nat → Prop} {b : Nat} {w : World} {a a' : Tm} {A A' : Option Addr} {c c' : Nat} {fr : Nat × Nat} (k : Int) (nm : ByteArray) (h0 : TmX ok w a (.agg #[.int .i64 a.f0, .string a.f1, .int .i64 a.f2, .slice A a.f3.length c])) (h1 : TmX ok w a' (.agg #[.int .i64 a'.f0, .string a'.f1, .int .i64 a'.f2, .slice A' a'.f3.length c']))
    (hb : w.heap[b]? = some (.cells #[.int .i64 a.f0, .string a.f1, .int .i64 a.f2, .slice A a.f3.length c, .int .i64 a'.f0, .string a'.f1, .int .i64 a'.f2, .slice A' a'.f3.length c'] 26 fr)) (hg : ok b) :
    TmX ok w (tm k nm [a, a']) (.agg #[.int .i64 k, .string nm, .int .i64 0, .slice (some ⟨b, 0, none⟩) 2 2]) := by
  obtain ⟨_, _, e0, hl0, hC0⟩ := h0
  obtain ⟨_, _, e1, hl1, hC1⟩ := h1
  simp only [Value.agg.injEq, Array.mk.injEq, List.cons.injEq, Value.slice.injEq, true_and, and_true] at e0 e1
  obtain ⟨rfl, rfl⟩ := e0
  obtain ⟨rfl, rfl⟩ := e1
  exact ⟨_, 2, rfl, Nat.le_refl _, fun w2 hp => C_lit ((hp.block b hg (blk_lt hb)).trans hb) (Reps.c4 (k26_mk w2 a hl0 (hC0 w2 hp)) (Reps.c4 (k26_mk w2 a' hl1 (hC1 w2 hp)) (Reps.none _ _))) (by show (2 : Nat) ≤ _; decide)⟩
theorem run_parts (k : Nat) (s : List TokT) : run (k + 1) .parts s = (run k .part s).then_ fun t s => run k (.apps t) s := rfl
theorem run_apps (k : Nat) (t : Tm) (s : List TokT) : run (k + 1) (.apps t) s = if beginsL s = true then (run k .part s).then_ fun u s => run k (.apps (tm 4 noName [t, u])) s else PR.ret t s := rfl
structure Apps (g : Nat) (A : Option Addr) (c : Nat) (E : Value) (p s : List TokT) (w : World) (n1 : Nat) (res : Option (Tm × List TokT)) (k gk : Nat) (wr : World) : Prop where
  le : gk ≤ k
  ex : ∃ t A3 c3 p' s', run gk (.apps t) s' = some res ∧ p' ++ s' = p ++ s ∧ Rd g A c E p' s' wr ∧ Past g w wr ∧ Own wr w.heap.size zeroV 26 ∧
    Own wr n1 #[.int .i64 t.f0, .string t.f1, .int .i64 t.f2, .slice A3 t.f3.length c3] 26 ∧ TmX (fun b => w.heap.size < b ∧ b ≠ n1) wr t (.agg #[.int .i64 t.f0, .string t.f1, .int .i64 t.f2, .slice A3 t.f3.length c3])
set_option maxRecDepth 100000 in
set_option maxHeartbeats 4000000 in
theorem parts_step (k : Nat) (HP : RH 215 .part k) : RH 197 .parts (k + 1) := by
  intro g A c E p s w res h hrun
  rw [run_parts] at hrun
  have h0 := h.below (below_alloc (Below.refl _ _) (.cells zeroV 26))
  have hlt := h.lt
  have hne : w.heap.size ≠ g := by omega
  have HH := Lib.hid h
  have B2 := Own.new w zeroV 26
  have P0 : Past g w (w.alloc (.cells zeroV 26)) := Past.of_below (below_alloc (Below.refl _ _) _)
  rcases then_some hrun with ⟨hr, rfl⟩ | ⟨t, s', hr, he⟩
  · have KP := Lib.hid (HP.none h0 hr)
    clear hr h0 h hrun
    go_enter Tryz.func197, Tryz.ntmps197
    go_wp2_with fail
    refine KP.out.mono ?_
    rintro e w1 ⟨hp, b, n, rfl, hb⟩
    have P1 := P0.trans hp
    have HB := Lib.hid hb
    clear hp hb
    go_wp2_with fail
    exact ⟨rfl, P1, _, _, rfl, HB.out⟩
  · have KP := Lib.hid (HP.some h0 hr)
    have HE := Lib.hid he
    clear hr h0 h hrun he
    go_enter Tryz.func197, Tryz.ntmps197
    go_wp2_with fail
    refine KP.out.mono ?_
    rintro e w1 ⟨A3, c3, p', rfl, hp, hv, hpp, hrd⟩
    have hN1 : w.heap.size < w1.heap.size := by have := hp.size; simp at this; omega
    have hne1 : w1.heap.size ≠ g := by omega
    have hnn : w.heap.size ≠ w1.heap.size := by omega
    have H0 := Lib.hid (Apps.mk (g := g) (A := A) (c := c) (E := E) (p := p) (s := s) (w := w) (n1 := w1.heap.size) (res := res) (k := k) (gk := k) (wr := w1.alloc (.cells #[.int .i64 t.f0, .string t.f1, .int .i64 t.f2, .slice A3 t.f3.length c3] 26))
      (Nat.le_refl _) ⟨t, A3, c3, p', s', HE.out, hpp, hrd.below (below_alloc (Below.refl _ _) _), (P0.trans hp).alloc _, (B2.past hp hne).alloc _, Own.new w1 _ _, (hv.toX (ok := fun b => w.heap.size < b ∧ b ≠ w1.heap.size) (fun b h1 h2 => ⟨by simp at h1; omega, by omega⟩)).same (SameX.of_below (below_alloc (Below.refl _ _) _))⟩)
    clear hp hpp hrd hv KP HE
    go_wp2_with fail
    go_loopg [] k (fun gk wr => Apps g A c E p s w w1.heap.size res k gk wr)
    case atStart => exact H0.out
    case round =>
      obtain ⟨t, A3, c3, p', s', hrun, hpp, hrd, hP, hB2, hB3, hv⟩ := hrel.ex
      cases gk with
      | zero => cases hrun
      | succ gk =>
      rw [run_apps] at hrun
      have hgk := hrel.le
      have hw1 : w1.heap.size < wr.heap.size := hB3.lt
      have HPP := Lib.hid hpp
      clear hrel hpp H0
      cases hq : beginsL s' with
      | false =>
        rw [hq, if_neg (by decide)] at hrun
        have HE := Lib.hid (Option.some.inj hrun)
        have K := Lib.hid (beginsC g A c E p' s' wr hrd)
        rw [hq] at K
        clear hq hrun
        go_wp2_with fail
        refine K.out.mono ?_
        rintro e w2 ⟨rfl, hb⟩
        have hrd := hrd.below hb
        have hP := hP.trans (Past.of_below hb)
        have hB2 := hB2.past (Past.of_below (g := g) hb) hne
        have hB3 := hB3.past (Past.of_below (g := g) hb) hne1
        have hv := hv.same (SameX.of_below hb)
        have d0 := hB2.cell 0
        have d1 := hB2.cell 1
        have d2 := hB2.cell 2
        have d3 := hB2.cell 3
        have dz := fun i => hB2.fz i
        have q0 := hB3.cell 0
        have q1 := hB3.cell 1
        have q2 := hB3.cell 2
        have q3 := hB3.cell 3
        clear hb
        go_wp2_with fail
        refine ret4 rfl rfl (Own.four hB2) ?_
        have e1 := HE.out
        subst e1
        exact Out.ret HH.out hP (four_set (w3size := 0) (Below.refl _ _)) HPP.out hrd ((hv.same (SameX.four fun b h => by omega)).toV fun b h => by omega)
      | true =>
        have K := Lib.hid (beginsC g A c E p' s' wr hrd)
        rw [hq, if_pos rfl] at hrun
        rw [hq] at K
        clear hq
        rcases then_some hrun with ⟨hr, rfl⟩ | ⟨u, s2, hr, he⟩
        · have HR := Lib.hid (run_le hr (show gk ≤ k by omega))
          clear hr hrun
          go_wp2_with fail
          refine K.out.mono ?_
          rintro e w2 ⟨rfl, hb⟩
          have hrd := hrd.below hb
          have hP := hP.trans (Past.of_below hb)
          have hB3 := hB3.past (Past.of_below (g := g) hb) hne1
          have q0 := hB3.cell 0
          have q1 := hB3.cell 1
          have q2 := hB3.cell 2
          have q3 := hB3.cell 3
          have KP := Lib.hid (HP.none (hrd.below (below_drew (Below.refl _ _))) HR.out)
          have P2 := hP.drew
          clear hb
          go_wp2_with fail
          refine wp_region_any (by kernel_rfl) ?_
          change wpAny _ _ _ _ _ _ _ (World.drew _)
          refine wpAny_take (i := 1) (v := .pointer (some ⟨g, 0, none⟩)) rfl (by kernel_rfl) (by kernel_rfl) (by kernel_rfl) (fun _ _ _ h => h) (Or.inl ⟨by rfl, ?_⟩) ?_
          · intro w; go_simp
          refine wpAny_ready (rs := [0, 2]) (by kernel_rfl) (by simp) ?_
          refine AllReady.cons rfl (fun K hK => ?_) ?_
          · go_simp
            refine hK _ _ ?_
            clear hK K
            refine wpAny_ready (rs := [2]) (by kernel_rfl) (by simp) ?_
            refine AllReady.cons rfl (fun K hK => ?_) AllReady.nil
            go_simp
            refine KP.out.mono ?_
            rintro e w3 ⟨hp, b, n, rfl, hb⟩
            exact ⟨rfl, P2.trans hp, _, _, rfl, hb⟩
          · refine AllReady.cons rfl (fun K hK => ?_) AllReady.nil
            go_simp
            refine KP.out.mono ?_
            rintro e w3 ⟨hp, b, n, rfl, hb⟩
            exact ⟨rfl, P2.trans hp, _, _, rfl, hb⟩
        · have HR := Lib.hid (run_le hr (show gk ≤ k by omega))
          have HE := Lib.hid he
          clear hr hrun he
          go_wp2_with fail
          refine K.out.mono ?_
          rintro e w2 ⟨rfl, hb⟩
          have hrd := hrd.below hb
          have hP := (hP.trans (Past.of_below hb)).drew
          have hB2 := hB2.past (Past.of_below (g := g) hb) hne
          have hB3 := hB3.past (Past.of_below (g := g) hb) hne1
          have hv := (hv.same (SameX.of_below hb)).same (SameX.of_below (below_drew (Below.refl _ _)))
          have hw2 : wr.heap.size ≤ w2.heap.size := hb.size
          have B2d : Own w2.drew w.heap.size zeroV 26 := hB2
          have B3d : Own w2.drew w1.heap.size #[.int .i64 t.f0, .string t.f1, .int .i64 t.f2, .slice A3 t.f3.length c3] 26 := hB3
          have q0 := hB3.cell 0
          have q1 := hB3.cell 1
          have q2 := hB3.cell 2
          have q3 := hB3.cell 3
          have KP := Lib.hid (HP.some (hrd.below (below_drew (Below.refl _ _))) HR.out)
          clear hb hB2 hB3
          go_wp2_with fail
          go_region_with ((go_at_call 215; refine KP.out.mono ?_; rintro e w3 ⟨A4, c4, p2, rfl, hp, hv2, hpp, hrd2⟩; have B3e := B3d.past hp hne1; have q0 := B3e.cell 0; have q1 := B3e.cell 1; have q2 := B3e.cell 2; have q3 := B3e.cell 3; have B3f := B3e.alloc (.cells #[.int .i64 t.f0, .string t.f1, .int .i64 t.f2, .slice A3 t.f3.length c3, .int .i64 u.f0, .string u.f1, .int .i64 u.f2, .slice A4 u.f3.length c4] 26); have d0 := B3f.cell 0; have d1 := B3f.cell 1; have d2 := B3f.cell 2; have d3 := B3f.cell 3; have dz := fun i => B3f.fz i))
          all_goals
            go_wp2_with fail
            have hN3 : w2.heap.size ≤ w3.heap.size := hp.size
            have hp2 : p2 ++ s2 = p ++ s := hpp.trans HPP.out
            have hb5 : ∀ {x0 x1 x2 x3 : Value} {o : Obj}, Below w.heap.size w3 (((((w3.alloc o).setCell ⟨w1.heap.size, 0, none⟩ x0).setCell ⟨w1.heap.size, 1, none⟩ x1).setCell ⟨w1.heap.size, 2, none⟩ x2).setCell ⟨w1.heap.size, 3, none⟩ x3) :=
              ((((belowN_alloc (by omega) _).setCell (Nat.le_of_lt hN1) _).setCell (Nat.le_of_lt hN1) _).setCell (Nat.le_of_lt hN1) _).setCell (Nat.le_of_lt hN1) _
            go_roundg gk
            case measure => omega
            case rel =>
              refine ⟨by omega, tm 4 noName [t, u], some ⟨w3.heap.size, 0, none⟩, 2, p2, s2, HE.out, hp2, HH.out.old hp2 hrd2 hb5, (hP.trans hp).belowN hb5, four_far ((B2d.past hp hne).alloc _) hnn, Own.four B3f, ?_⟩
              exact TmX.kids2 4 noName ((hv.same (SameX.of_past hp fun b h => by omega)).same ((SameX.of_below (below_alloc (Below.refl _ _) _)).trans (SameX.four fun b h => h.2)))
                ((hv2.toX (ok := fun b => w.heap.size < b ∧ b ≠ w1.heap.size) fun b h _ => by have h' : w2.heap.size ≤ b := h; exact ⟨by omega, by omega⟩).same ((SameX.of_below (below_alloc (Below.refl _ _) _)).trans (SameX.four fun b h => h.2)))
                (four_far (blk_new _ _) (by omega)) ⟨by omega, by omega⟩
end Go.Proofs.YtchekgnacodolaaGreatDoor.X
end
section
namespace Go.Proofs.YtchekgnacodolaaGreatDoor.X
open Go.RowKit Go.Proofs.YtchekgnacodolaaGreatDoorW.PrintWords Go.Proofs.YtchekgnacodolaaGreatDoorW.PrintLast Go.Proofs.YtchekgnacodolaaGreatDoorW.PrintMore
set_option linter.unusedSimpArgs false
set_option linter.unusedVariables false
set_option maxRecDepth 100000 in
set_option maxHeartbeats 8000000 in
theorem upto_step (m : ByteArray) (k : Nat) (HA : RH 86 .all k) : ∀ (g : Nat) (A : Option Addr) (c : Nat) (E : Value) (p s : List TokT) (w : World) (res : Option (Tm × List TokT)), Rd g A c E p s w → (run k .all s).key m PR.ret = some res →
    Calls Tryz.prog 176 #[.pointer (some ⟨g, 0, none⟩), .string m] w fun e w' => Out g A c E p s w res e w' := by
  intro g A c E p s w res h hrun
  have h0 := h.below (below_alloc (Below.refl _ _) (.cells zeroV 26))
  have hlt := h.lt
  have hne : w.heap.size ≠ g := by omega
  have HH := Lib.hid h
  have B2 := Own.new w zeroV 26
  have P0 : Past g w (w.alloc (.cells zeroV 26)) := Past.of_below (below_alloc (Below.refl _ _) _)
  rcases key_some hrun with ⟨hr, rfl⟩ | ⟨t, s', hr, hm, rfl⟩ | ⟨t, s', hr, hm, he⟩
  · have KP := Lib.hid (HA.none h0 hr)
    clear hr h0 h hrun
    go_enter Tryz.func176, Tryz.ntmps176
    go_wp2_with fail
    refine KP.out.mono ?_
    rintro e wz ⟨hp, b, n, rfl, hb⟩
    have P9 := P0.trans hp
    have HB := Lib.hid hb
    clear hp hb
    go_wp2_with fail
    exact ⟨rfl, P9, _, _, rfl, HB.out⟩
  · have KP := Lib.hid (HA.some h0 hr)
    have HM := Lib.hid hm
    clear hr h0 h hrun hm
    go_enter Tryz.func176, Tryz.ntmps176
    go_wp2_with fail
    refine KP.out.mono ?_
    rintro e w1 ⟨A3, c3, p', rfl, hp, hv, hpp, hrd⟩
    have KM := Lib.hid (must_no m g A c E p' s' _ (hrd.below (below_alloc (Below.refl _ _) (.cells #[.int .i64 t.f0, .string t.f1, .int .i64 t.f2, .slice A3 t.f3.length c3] 26))) HM.out)
    have P1 := (P0.trans hp).alloc (.cells #[.int .i64 t.f0, .string t.f1, .int .i64 t.f2, .slice A3 t.f3.length c3] 26)
    clear hp hpp hrd hv
    go_wp2_with fail
    refine KM.out.mono ?_
    rintro e wz ⟨hp, b, n, rfl, hb⟩
    have P9 := P1.trans hp
    have HB := Lib.hid hb
    clear hp hb
    go_wp2_with fail
    exact ⟨rfl, P9, _, _, rfl, HB.out⟩
  · have KP := Lib.hid (HA.some h0 hr)
    have HM := Lib.hid hm
    have HE := Lib.hid he
    clear hr h0 h hrun hm he
    go_enter Tryz.func176, Tryz.ntmps176
    go_wp2_with fail
    refine KP.out.mono ?_
    rintro e w1 ⟨A3, c3, p', rfl, hp, hv, hpp, hrd⟩
    have hN1 : w.heap.size < w1.heap.size := by have := hp.size; (try simp at this); omega
    have hne1 : w1.heap.size ≠ g := by omega
    obtain ⟨z, q, rfl⟩ := isL_ne HM.out
    have KM := Lib.hid (must_yes m g A c E p' z q _ (hrd.below (below_alloc (Below.refl _ _) (.cells #[.int .i64 t.f0, .string t.f1, .int .i64 t.f2, .slice A3 t.f3.length c3] 26))) HM.out)
    have P1 := (P0.trans hp).alloc (.cells #[.int .i64 t.f0, .string t.f1, .int .i64 t.f2, .slice A3 t.f3.length c3] 26)
    have B2 := (B2.past hp hne).alloc (.cells #[.int .i64 t.f0, .string t.f1, .int .i64 t.f2, .slice A3 t.f3.length c3] 26)
    have B3 := Own.new w1 #[.int .i64 t.f0, .string t.f1, .int .i64 t.f2, .slice A3 t.f3.length c3] 26
    have hv := hv.same ((Same.refl _ _).alloc (.cells #[.int .i64 t.f0, .string t.f1, .int .i64 t.f2, .slice A3 t.f3.length c3] 26))
    simp only [World.size_alloc] at hv
    have HPP := Lib.hid hpp
    clear hp hpp hrd
    go_wp2_with fail
    refine KM.out.mono ?_
    rintro e w2 ⟨rfl, hp, hrd⟩
    have P2 := P1.trans hp
    have B2 := B2.past hp hne
    have B3 := B3.past hp hne1
    have hv := hv.same (Same.of_past hp (by omega))
    have d0 := B2.cell 0
    have d1 := B2.cell 1
    have d2 := B2.cell 2
    have d3 := B2.cell 3
    have dz := fun i => B2.fz i
    have q0 := B3.cell 0
    have q1 := B3.cell 1
    have q2 := B3.cell 2
    have q3 := B3.cell 3
    clear hp
    go_wp2_with fail
    refine ret4 rfl rfl (Own.four B2) ?_
    have e1 := HE.out
    injection e1 with e1
    subst e1
    exact Out.ret HH.out P2 (four_set (w3size := 0) (Below.refl _ _)) (by have := HPP.out; simp at this ⊢; exact this) hrd ((hv.same (four_same (Same.refl _ _) (by omega))).mono (by omega))
theorem upto_some {m : ByteArray} {k : Nat} (HA : RH 86 .all k) {g : Nat} {A : Option Addr} {c : Nat} {E : Value} {p s s' : List TokT} {t : Tm} {w : World} (hr : Rd g A c E p s w) (e : run k .all s = .some (.some (t, s'))) (hm : isL s' m = true) :
    Calls Tryz.prog 176 #[.pointer (.some ⟨g, 0, none⟩), .string m] w fun e w' => ∃ A3 c3 p', e = .returned (.agg #[.int .i64 t.f0, .string t.f1, .int .i64 t.f2, .slice A3 t.f3.length c3]) ∧ Past g w w' ∧ TmV w.heap.size w' t (.agg #[.int .i64 t.f0, .string t.f1, .int .i64 t.f2, .slice A3 t.f3.length c3]) ∧ p' ++ s'.tail = p ++ s ∧ Rd g A c E p' s'.tail w' := by
  refine (upto_step m k HA g A c E p s w (some (t, s'.tail)) hr (by unfold PR.key; rw [e]; show (if isL s' m = true then _ else _) = _; rw [if_pos hm]; rfl)).mono ?_
  rintro e w' ⟨hp, v, p', rfl, hv, he, hr'⟩
  obtain ⟨A3, c3, rfl, hl, hC⟩ := hv
  exact ⟨A3, c3, p', rfl, hp, ⟨A3, c3, rfl, hl, hC⟩, he, hr'⟩
theorem upto_none {m : ByteArray} {k : Nat} (HA : RH 86 .all k) {g : Nat} {A : Option Addr} {c : Nat} {E : Value} {p s : List TokT} {w : World} (hr : Rd g A c E p s w) (e : (run k .all s).key m PR.ret = .some .none) :
    Calls Tryz.prog 176 #[.pointer (.some ⟨g, 0, Option.none⟩), .string m] w fun e w' => Fails g E w e w' := upto_step m k HA g A c E p s w none hr e
theorem key_none {r : PR} {m : ByteArray} (h : r = some none ∨ ∃ t s, r = some (some (t, s)) ∧ isL s m = false) : r.key m PR.ret = some none := by
  rcases h with rfl | ⟨t, s, rfl, hm⟩
  · rfl
  · show (if isL s m = true then _ else _) = _; rw [hm]; rfl
theorem key_cases {r : PR} {m : ByteArray} {f : Tm → List TokT → PR} {res : Option (Tm × List TokT)} (h : r.key m f = some res) : (r.key m PR.ret = some none ∧ res = none) ∨ ∃ t s, r = some (some (t, s)) ∧ isL s m = true ∧ f t s.tail = some res := by
  rcases key_some h with ⟨e, rfl⟩ | ⟨t, s, e, hm, rfl⟩ | h
  · exact .inl ⟨key_none (.inl e), rfl⟩
  · exact .inl ⟨key_none (.inr ⟨t, s, e, hm⟩), rfl⟩
  · exact .inr h
theorem name_some {o : Option (ByteArray × List TokT)} {f : ByteArray → List TokT → PR} {res : Option (Tm × List TokT)} (h : PR.name o f = some res) : (o = none ∧ res = none) ∨ ∃ n s, o = some (n, s) ∧ f n s = some res := by
  cases o with
  | none => exact .inl ⟨rfl, (Option.some.inj h).symm⟩
  | some x => exact .inr ⟨x.1, x.2, rfl, h⟩
theorem bound_some {m : ByteArray} {s s' : List TokT} {nm : ByteArray} (hb : boundL s m = some (nm, s')) : ∃ x y, s = x :: y :: s' ∧ x.f0 = 1 ∧ x.f1 = nm ∧ isL (y :: s') m = true := by
  unfold boundL at hb
  by_cases hx : (peekL s).f0 = 1
  · rw [if_pos hx] at hb
    obtain ⟨x, r, rfl⟩ := peek_ne (s := s) (by rw [hx]; decide)
    by_cases hm : isL r m = true
    · rw [if_pos (by exact hm)] at hb
      obtain ⟨y, r', rfl⟩ := isL_ne hm
      injection hb with hb
      injection hb with h1 h2
      subst h2
      exact ⟨x, y, rfl, hx, h1, hm⟩
    · rw [if_neg (by exact hm)] at hb; cases hb
  · rw [if_neg hx] at hb; cases hb
theorem boundC {m : ByteArray} {g : Nat} {A : Option Addr} {c : Nat} {E : Value} {p s s' : List TokT} {nm : ByteArray} {w : World} (h : Rd g A c E p s w) (hb : boundL s m = some (nm, s')) :
    Calls Tryz.prog 175 #[.pointer (some ⟨g, 0, none⟩), .string m] w fun e w' => e = .returned (.string nm) ∧ Past g w w' ∧ ∃ p', p' ++ s' = p ++ s ∧ Rd g A c E p' s' w' := by
  obtain ⟨x, y, rfl, hx, rfl, hm⟩ := bound_some hb
  refine (bound_yes m g A c E p x y s' w h hx hm).mono ?_
  rintro e w' ⟨rfl, hp, hr⟩
  exact ⟨rfl, hp, _, by simp, hr⟩
theorem run_one (k : Nat) (s : List TokT) : run (k + 1) .one s =
    if isL s kFun = true then PR.name (boundL s.tail mArrow) fun n s => (run k .all s).then_ fun x s => PR.ret (tm 3 n [x]) s
    else if isL s kLet = true then PR.name (boundL s.tail mEq) fun n s => (run k .all s).key kIn fun x s => (run k .all s).then_ fun y s => PR.ret (tm 5 n [x, y]) s
    else if isL s kIf = true then (run k .all s.tail).key kThen fun c s => (run k .all s).key kElse fun x s => (run k .all s).then_ fun y s => PR.ret (tm 6 noName [c, x, y]) s
    else if isL s kWhile = true then (run k .all s.tail).key kDo fun c s => (run k .all s).then_ fun x s => PR.ret (tm 7 noName [c, x]) s
    else if isL s kRaise = true then (run k .one s.tail).then_ fun x s => PR.ret (tm 8 noName [x]) s
    else if isL s kTry = true then (run k .all s.tail).key kWith fun x s => PR.name (boundL s mArrow) fun n s => (run k .all s).then_ fun y s => PR.ret (tm 9 n [x, y]) s
    else run k .plain s := rfl
set_option maxRecDepth 100000 in
set_option maxHeartbeats 8000000 in
theorem one_fun (k : Nat) (HA : RH 86 .all k) (HO : RH 131 .one k) (HL : RH 177 .plain k) (g : Nat) (A : Option Addr) (c : Nat) (E : Value) (p s : List TokT) (w : World) (res : Option (Tm × List TokT)) (h : Rd g A c E p s w)  (hq : isL s kFun = true) (hrun : (PR.name (boundL s.tail mArrow) fun n s => (run k .all s).then_ fun x s => PR.ret (tm 3 n [x]) s) = some res) :
    Calls Tryz.prog 131 #[.pointer (some ⟨g, 0, none⟩)] w fun e w' => Out g A c E p s w res e w' := by
  have h0 := h.below (below_alloc (Below.refl _ _) (.cells zeroV 26))
  have hlt := h.lt
  have hne : w.heap.size ≠ g := by omega
  have HH := Lib.hid h
  have B2 := Own.new w zeroV 26
  have P0 : Past g w (w.alloc (.cells zeroV 26)) := Past.of_below (below_alloc (Below.refl _ _) _)
  have HR := Lib.hid hrun
  have MQ := Lib.hid hq
  clear hrun h hq
  go_enter Tryz.func131, Tryz.ntmps131
  go_wp2_with fail
  refine (take_yes kFun h0 MQ.out).mono ?_
  rintro e w1 ⟨rfl, hp, y0, hs, h1⟩
  have P1 := P0.trans hp
  have B2 := B2.past hp hne
  have HS := Lib.hid hs
  have hN1 : w.heap.size < w1.heap.size := by have := B2.lt; omega
  clear hp hs
  rcases name_some HR.out with ⟨hb, rfl⟩ | ⟨nm, s1, hb, he⟩
  · have KP := Lib.hid (bound_no mArrow g A c E _ _ _ h1 hb)
    clear hb h1
    go_wp2_with fail
    refine KP.out.mono ?_
    rintro e wz ⟨hp, b, n, rfl, hb⟩
    have P9 := P1.trans hp
    have HB := Lib.hid hb
    clear hp hb
    go_wp2_with fail
    exact ⟨rfl, P9, _, _, rfl, HB.out⟩
  · have KB := Lib.hid (boundC h1 hb)
    clear hb h1
    go_wp2_with fail
    refine KB.out.mono ?_
    rintro e w2 ⟨rfl, hp, p2, hpp, h2⟩
    have P2 := P1.trans hp
    have B2 := B2.past hp hne
    have hN2 : w1.heap.size ≤ w2.heap.size := hp.size
    have HPP := Lib.hid hpp
    clear hp hpp
    rcases then_some he with ⟨hr, rfl⟩ | ⟨t, s2, hr, he2⟩
    · have KP := Lib.hid (HA.none h2 hr)
      clear hr h2 he
      go_wp2_with fail
      refine KP.out.mono ?_
      rintro e wz ⟨hp, b, n, rfl, hb⟩
      have P9 := P2.trans hp
      have HB := Lib.hid hb
      clear hp hb
      go_wp2_with fail
      exact ⟨rfl, P9, _, _, rfl, HB.out⟩
    · have KP := Lib.hid (HA.some h2 hr)
      have HE := Lib.hid he2
      clear hr h2 he he2
      go_wp2_with fail
      refine KP.out.mono ?_
      rintro e w3 ⟨A3, c3, p3, rfl, hp, hv, hpp, hrdz⟩
      have PZ := P2.trans hp
      have B2 := B2.past hp hne
      have hN3 : w2.heap.size ≤ w3.heap.size := hp.size
      have HPP3 := Lib.hid hpp
      have B2a := B2.alloc (.cells #[.int .i64 t.f0, .string t.f1, .int .i64 t.f2, .slice A3 t.f3.length c3] 26)
      have d0 := B2a.cell 0
      have d1 := B2a.cell 1
      have d2 := B2a.cell 2
      have d3 := B2a.cell 3
      have dz := fun i => B2a.fz i
      clear hp hpp
      go_wp2_with fail
      refine ret4 rfl rfl (Own.four (B2.alloc _)) ?_
      have e1 := HE.out
      injection e1 with e1
      subst e1
      exact Out.ret HH.out PZ (four_set (w3size := 0) (belowN_alloc (by omega) _)) (by rw [HPP3.out, HPP.out, HS.out]; simp) hrdz ((TmV.kids1 3 nm (hv.same (four_same ((Same.refl _ _).alloc _) (by omega))) (four_far (blk_new _ _) (by omega)) (by omega)).mono (by omega))
set_option maxRecDepth 100000 in
set_option maxHeartbeats 8000000 in
theorem one_raise (k : Nat) (HA : RH 86 .all k) (HO : RH 131 .one k) (HL : RH 177 .plain k) (g : Nat) (A : Option Addr) (c : Nat) (E : Value) (p s : List TokT) (w : World) (res : Option (Tm × List TokT)) (h : Rd g A c E p s w) (n0 : isL s kFun = false) (n1 : isL s kLet = false) (n2 : isL s kIf = false) (n3 : isL s kWhile = false) (hq : isL s kRaise = true) (hrun : ((run k .one s.tail).then_ fun x s => PR.ret (tm 8 noName [x]) s) = some res) :
    Calls Tryz.prog 131 #[.pointer (some ⟨g, 0, none⟩)] w fun e w' => Out g A c E p s w res e w' := by
  have h0 := h.below (below_alloc (Below.refl _ _) (.cells zeroV 26))
  have hlt := h.lt
  have hne : w.heap.size ≠ g := by omega
  have HH := Lib.hid h
  have B2 := Own.new w zeroV 26
  have P0 : Past g w (w.alloc (.cells zeroV 26)) := Past.of_below (below_alloc (Below.refl _ _) _)
  have HR := Lib.hid hrun
  have M0 := Lib.hid n0
  have M1 := Lib.hid n1
  have M2 := Lib.hid n2
  have M3 := Lib.hid n3
  have MQ := Lib.hid hq
  clear hrun h n0 n1 n2 n3 hq
  go_enter Tryz.func131, Tryz.ntmps131
  go_wp2_with fail
  refine (take_no kFun h0 M0.out).mono ?_
  rintro e v0 ⟨rfl, hp, h0⟩
  have P0 := P0.trans hp
  have B2 := B2.past hp hne
  clear hp
  go_wp2_with fail
  refine (take_no kLet h0 M1.out).mono ?_
  rintro e v1 ⟨rfl, hp, h0⟩
  have P0 := P0.trans hp
  have B2 := B2.past hp hne
  clear hp
  go_wp2_with fail
  refine (take_no kIf h0 M2.out).mono ?_
  rintro e v2 ⟨rfl, hp, h0⟩
  have P0 := P0.trans hp
  have B2 := B2.past hp hne
  clear hp
  go_wp2_with fail
  refine (take_no kWhile h0 M3.out).mono ?_
  rintro e v3 ⟨rfl, hp, h0⟩
  have P0 := P0.trans hp
  have B2 := B2.past hp hne
  clear hp
  go_wp2_with fail
  refine (take_yes kRaise h0 MQ.out).mono ?_
  rintro e w1 ⟨rfl, hp, y0, hs, h1⟩
  have P1 := P0.trans hp
  have B2 := B2.past hp hne
  have HS := Lib.hid hs
  have hN1 : w.heap.size < w1.heap.size := by have := B2.lt; omega
  clear hp hs
  rcases then_some HR.out with ⟨hr, rfl⟩ | ⟨t, s2, hr, he2⟩
  · have KP := Lib.hid (HO.none h1 hr)
    clear hr h1
    go_wp2_with fail
    refine KP.out.mono ?_
    rintro e wz ⟨hp, b, n, rfl, hb⟩
    have P9 := P1.trans hp
    have HB := Lib.hid hb
    clear hp hb
    go_wp2_with fail
    exact ⟨rfl, P9, _, _, rfl, HB.out⟩
  · have KP := Lib.hid (HO.some h1 hr)
    have HE := Lib.hid he2
    clear hr h1 he2
    go_wp2_with fail
    refine KP.out.mono ?_
    rintro e w3 ⟨A3, c3, p3, rfl, hp, hv, hpp, hrdz⟩
    have PZ := P1.trans hp
    have B2 := B2.past hp hne
    have hN3 : w1.heap.size ≤ w3.heap.size := hp.size
    have HPP3 := Lib.hid hpp
    have B2a := B2.alloc (.cells #[.int .i64 t.f0, .string t.f1, .int .i64 t.f2, .slice A3 t.f3.length c3] 26)
    have d0 := B2a.cell 0
    have d1 := B2a.cell 1
    have d2 := B2a.cell 2
    have d3 := B2a.cell 3
    have dz := fun i => B2a.fz i
    clear hp hpp
    go_wp2_with fail
    refine ret4 rfl rfl (Own.four (B2.alloc _)) ?_
    have e1 := HE.out
    injection e1 with e1
    subst e1
    exact Out.ret HH.out PZ (four_set (w3size := 0) (belowN_alloc (by omega) _)) (by rw [HPP3.out, HS.out]; simp) hrdz ((TmV.kids1 8 noName (hv.same (four_same ((Same.refl _ _).alloc _) (by omega))) (four_far (blk_new _ _) (by omega)) (by omega)).mono (by omega))
set_option maxRecDepth 100000 in
set_option maxHeartbeats 8000000 in
theorem one_while (k : Nat) (HA : RH 86 .all k) (HO : RH 131 .one k) (HL : RH 177 .plain k) (g : Nat) (A : Option Addr) (c : Nat) (E : Value) (p s : List TokT) (w : World) (res : Option (Tm × List TokT)) (h : Rd g A c E p s w) (n0 : isL s kFun = false) (n1 : isL s kLet = false) (n2 : isL s kIf = false) (hq : isL s kWhile = true) (hrun : ((run k .all s.tail).key kDo fun c s => (run k .all s).then_ fun x s => PR.ret (tm 7 noName [c, x]) s) = some res) :
    Calls Tryz.prog 131 #[.pointer (some ⟨g, 0, none⟩)] w fun e w' => Out g A c E p s w res e w' := by
  have h0 := h.below (below_alloc (Below.refl _ _) (.cells zeroV 26))
  have hlt := h.lt
  have hne : w.heap.size ≠ g := by omega
  have HH := Lib.hid h
  have B2 := Own.new w zeroV 26
  have P0 : Past g w (w.alloc (.cells zeroV 26)) := Past.of_below (below_alloc (Below.refl _ _) _)
  have HR := Lib.hid hrun
  have M0 := Lib.hid n0
  have M1 := Lib.hid n1
  have M2 := Lib.hid n2
  have MQ := Lib.hid hq
  clear hrun h n0 n1 n2 hq
  go_enter Tryz.func131, Tryz.ntmps131
  go_wp2_with fail
  refine (take_no kFun h0 M0.out).mono ?_
  rintro e v0 ⟨rfl, hp, h0⟩
  have P0 := P0.trans hp
  have B2 := B2.past hp hne
  clear hp
  go_wp2_with fail
  refine (take_no kLet h0 M1.out).mono ?_
  rintro e v1 ⟨rfl, hp, h0⟩
  have P0 := P0.trans hp
  have B2 := B2.past hp hne
  clear hp
  go_wp2_with fail
  refine (take_no kIf h0 M2.out).mono ?_
  rintro e v2 ⟨rfl, hp, h0⟩
  have P0 := P0.trans hp
  have B2 := B2.past hp hne
  clear hp
  go_wp2_with fail
  refine (take_yes kWhile h0 MQ.out).mono ?_
  rintro e w1 ⟨rfl, hp, y0, hs, h1⟩
  have P1 := P0.trans hp
  have B2 := B2.past hp hne
  have HS := Lib.hid hs
  have hN1 : w.heap.size < w1.heap.size := by have := B2.lt; omega
  clear hp hs
  rcases key_cases HR.out with ⟨hr, rfl⟩ | ⟨t, s1, hr, hm, hea⟩
  · have KP := Lib.hid (upto_none HA h1 hr)
    clear hr h1
    go_wp2_with fail
    refine KP.out.mono ?_
    rintro e wz ⟨hp, b, n, rfl, hb⟩
    have P9 := P1.trans hp
    have HB := Lib.hid hb
    clear hp hb
    go_wp2_with fail
    exact ⟨rfl, P9, _, _, rfl, HB.out⟩
  · have KU := Lib.hid (upto_some HA h1 hr hm)
    clear hr h1 hm
    go_wp2_with fail
    refine KU.out.mono ?_
    rintro e xa ⟨Aa, ca, pa, rfl, hp, hva, hpp, hra⟩
    have Pa := (P1.trans hp).alloc (.cells #[.int .i64 t.f0, .string t.f1, .int .i64 t.f2, .slice Aa t.f3.length ca] 26)
    have hxa : w1.heap.size ≤ xa.heap.size := by have := hp.size; (try simp at this); omega
    have hnea : xa.heap.size ≠ g := by omega
    have hnna : w.heap.size ≠ xa.heap.size := by omega
    have B2 := (B2.past hp hne).alloc (.cells #[.int .i64 t.f0, .string t.f1, .int .i64 t.f2, .slice Aa t.f3.length ca] 26)
    have Xa := Own.new xa #[.int .i64 t.f0, .string t.f1, .int .i64 t.f2, .slice Aa t.f3.length ca] 26
    have hva := hva.same ((Same.refl _ _).alloc (.cells #[.int .i64 t.f0, .string t.f1, .int .i64 t.f2, .slice Aa t.f3.length ca] 26))
    (try simp only [World.size_alloc] at hva)
    have hra := hra.below (below_alloc (Below.refl _ _) (.cells #[.int .i64 t.f0, .string t.f1, .int .i64 t.f2, .slice Aa t.f3.length ca] 26))
    have HPPa := Lib.hid hpp
    clear hp hpp
    rcases then_some hea with ⟨hr, rfl⟩ | ⟨u, sz, hr, hez⟩
    · have PD := Pa.drew
      have qa_0 := Xa.cell 0
      have qa_1 := Xa.cell 1
      have qa_2 := Xa.cell 2
      have qa_3 := Xa.cell 3
      have KP := Lib.hid (HA.none (hra.below (below_drew (Below.refl _ _))) hr)
      clear hr hra
      go_wp2_with fail
      refine wp_region_any (by kernel_rfl) ?_
      change wpAny _ _ _ _ _ _ _ (World.drew _)
      refine wpAny_take (i := 1) (v := .pointer (some ⟨g, 0, none⟩)) rfl (by kernel_rfl) (by kernel_rfl) (by kernel_rfl) (fun _ _ _ h => h) (Or.inl ⟨by rfl, ?_⟩) ?_
      · intro w; go_simp
      refine wpAny_ready (rs := [0, 2]) (by kernel_rfl) (by simp) ?_
      refine AllReady.cons rfl (fun K hK => ?_) ?_
      · go_simp
        refine hK _ _ ?_
        clear hK K
        refine wpAny_ready (rs := [2]) (by kernel_rfl) (by simp) ?_
        refine AllReady.cons rfl (fun K hK => ?_) AllReady.nil
        go_simp
        refine KP.out.mono ?_
        rintro e w3 ⟨hp, b, n, rfl, hb⟩
        exact ⟨rfl, PD.trans hp, _, _, rfl, hb⟩
      refine AllReady.cons rfl (fun K hK => ?_) AllReady.nil
      go_simp
      refine KP.out.mono ?_
      rintro e w3 ⟨hp, b, n, rfl, hb⟩
      exact ⟨rfl, PD.trans hp, _, _, rfl, hb⟩
    · have PD := Pa.drew
      have B2d : Own (xa.alloc (.cells #[.int .i64 t.f0, .string t.f1, .int .i64 t.f2, .slice Aa t.f3.length ca] 26)).drew w.heap.size zeroV 26 := B2
      have Xad : Own (xa.alloc (.cells #[.int .i64 t.f0, .string t.f1, .int .i64 t.f2, .slice Aa t.f3.length ca] 26)).drew xa.heap.size #[.int .i64 t.f0, .string t.f1, .int .i64 t.f2, .slice Aa t.f3.length ca] 26 := Xa
      have hvad := hva.same ((Same.refl _ _).drew)
      have qa_0 := Xa.cell 0
      have qa_1 := Xa.cell 1
      have qa_2 := Xa.cell 2
      have qa_3 := Xa.cell 3
      have KP := Lib.hid (HA.some (hra.below (below_drew (Below.refl _ _))) hr)
      have HE := Lib.hid hez
      clear hr hra hez
      go_wp2_with fail
      go_region_held3 (fun w' => w'.cell? ⟨xa.heap.size, 0, none⟩ = some (.int .i64 t.f0) ∧ w'.cell? ⟨xa.heap.size, 1, none⟩ = some (.string t.f1) ∧ w'.cell? ⟨xa.heap.size, 2, none⟩ = some (.int .i64 t.f2) ∧ w'.cell? ⟨xa.heap.size, 3, none⟩ = some (.slice Aa t.f3.length ca)) (go_keep)
        ((go_at_call 86; refine KP.out.mono ?_; rintro e w3 ⟨A4, c4, pz, rfl, hp, hvz, hppz, hrdz⟩; have B2e := B2d.past hp hne; have qa_0 := (Xad.past hp hnea).cell 0; have qa_1 := (Xad.past hp hnea).cell 1; have qa_2 := (Xad.past hp hnea).cell 2; have qa_3 := (Xad.past hp hnea).cell 3; have B2f := B2e.alloc (.cells #[.int .i64 t.f0, .string t.f1, .int .i64 t.f2, .slice Aa t.f3.length ca, .int .i64 u.f0, .string u.f1, .int .i64 u.f2, .slice A4 u.f3.length c4] 26); have d0 := B2f.cell 0; have d1 := B2f.cell 1; have d2 := B2f.cell 2; have d3 := B2f.cell 3; have dz := fun i => B2f.fz i))
      go_wp2_with fail
      refine ret4 rfl rfl (Own.four B2f) ?_
      have hN3 : (xa.alloc (.cells #[.int .i64 t.f0, .string t.f1, .int .i64 t.f2, .slice Aa t.f3.length ca] 26)).heap.size ≤ w3.heap.size := hp.size
      (try simp only [World.size_alloc] at hN3)
      have e1 := HE.out
      injection e1 with e1
      subst e1
      refine Out.ret HH.out (PD.trans hp) (four_set (w3size := 0) (belowN_alloc (by omega) _)) (by rw [hppz, HPPa.out, HS.out]; simp) hrdz ?_
      exact (TmV.kids2 7 noName ((hvad.mono (base' := w.heap.size + 1) (by omega)).same (((Same.of_past hp (by omega)).alloc _).trans (four_same (Same.refl _ _) (by omega)))) ((hvz.mono (by show w.heap.size + 1 ≤ (xa.alloc (.cells #[.int .i64 t.f0, .string t.f1, .int .i64 t.f2, .slice Aa t.f3.length ca] 26)).heap.size; (try simp only [World.size_alloc]); omega)).same (((Same.refl _ _).alloc _).trans (four_same (Same.refl _ _) (by omega)))) (four_far (blk_new _ _) (by omega)) (by omega)).mono (by omega)
set_option maxRecDepth 100000 in
set_option maxHeartbeats 8000000 in
theorem one_let (k : Nat) (HA : RH 86 .all k) (HO : RH 131 .one k) (HL : RH 177 .plain k) (g : Nat) (A : Option Addr) (c : Nat) (E : Value) (p s : List TokT) (w : World) (res : Option (Tm × List TokT)) (h : Rd g A c E p s w) (n0 : isL s kFun = false) (hq : isL s kLet = true) (hrun : (PR.name (boundL s.tail mEq) fun n s => (run k .all s).key kIn fun x s => (run k .all s).then_ fun y s => PR.ret (tm 5 n [x, y]) s) = some res) :
    Calls Tryz.prog 131 #[.pointer (some ⟨g, 0, none⟩)] w fun e w' => Out g A c E p s w res e w' := by
  have h0 := h.below (below_alloc (Below.refl _ _) (.cells zeroV 26))
  have hlt := h.lt
  have hne : w.heap.size ≠ g := by omega
  have HH := Lib.hid h
  have B2 := Own.new w zeroV 26
  have P0 : Past g w (w.alloc (.cells zeroV 26)) := Past.of_below (below_alloc (Below.refl _ _) _)
  have HR := Lib.hid hrun
  have M0 := Lib.hid n0
  have MQ := Lib.hid hq
  clear hrun h n0 hq
  go_enter Tryz.func131, Tryz.ntmps131
  go_wp2_with fail
  refine (take_no kFun h0 M0.out).mono ?_
  rintro e v0 ⟨rfl, hp, h0⟩
  have P0 := P0.trans hp
  have B2 := B2.past hp hne
  clear hp
  go_wp2_with fail
  refine (take_yes kLet h0 MQ.out).mono ?_
  rintro e w1 ⟨rfl, hp, y0, hs, h1⟩
  have P1 := P0.trans hp
  have B2 := B2.past hp hne
  have HS := Lib.hid hs
  have hN1 : w.heap.size < w1.heap.size := by have := B2.lt; omega
  clear hp hs
  rcases name_some HR.out with ⟨hb, rfl⟩ | ⟨nm, s1, hb, he⟩
  · have KP := Lib.hid (bound_no mEq g A c E _ _ _ h1 hb)
    clear hb h1
    go_wp2_with fail
    refine KP.out.mono ?_
    rintro e wz ⟨hp, b, n, rfl, hb⟩
    have P9 := P1.trans hp
    have HB := Lib.hid hb
    clear hp hb
    go_wp2_with fail
    exact ⟨rfl, P9, _, _, rfl, HB.out⟩
  · have KB := Lib.hid (boundC h1 hb)
    clear hb h1
    go_wp2_with fail
    refine KB.out.mono ?_
    rintro e w2 ⟨rfl, hp, p2, hpp, h2⟩
    have P2 := P1.trans hp
    have B2 := B2.past hp hne
    have hN2 : w1.heap.size ≤ w2.heap.size := hp.size
    have HPP := Lib.hid hpp
    clear hp hpp
    rcases key_cases he with ⟨hr, rfl⟩ | ⟨t, s2, hr, hm, hea⟩
    · have KP := Lib.hid (upto_none HA h2 hr)
      clear hr h2
      go_wp2_with fail
      refine KP.out.mono ?_
      rintro e wz ⟨hp, b, n, rfl, hb⟩
      have P9 := P2.trans hp
      have HB := Lib.hid hb
      clear hp hb
      go_wp2_with fail
      exact ⟨rfl, P9, _, _, rfl, HB.out⟩
    · have KU := Lib.hid (upto_some HA h2 hr hm)
      clear hr h2 hm
      go_wp2_with fail
      refine KU.out.mono ?_
      rintro e xa ⟨Aa, ca, pa, rfl, hp, hva, hpp, hra⟩
      have Pa := (P2.trans hp).alloc (.cells #[.int .i64 t.f0, .string t.f1, .int .i64 t.f2, .slice Aa t.f3.length ca] 26)
      have hxa : w2.heap.size ≤ xa.heap.size := by have := hp.size; (try simp at this); omega
      have hnea : xa.heap.size ≠ g := by omega
      have hnna : w.heap.size ≠ xa.heap.size := by omega
      have B2 := (B2.past hp hne).alloc (.cells #[.int .i64 t.f0, .string t.f1, .int .i64 t.f2, .slice Aa t.f3.length ca] 26)
      have Xa := Own.new xa #[.int .i64 t.f0, .string t.f1, .int .i64 t.f2, .slice Aa t.f3.length ca] 26
      have hva := hva.same ((Same.refl _ _).alloc (.cells #[.int .i64 t.f0, .string t.f1, .int .i64 t.f2, .slice Aa t.f3.length ca] 26))
      (try simp only [World.size_alloc] at hva)
      have hra := hra.below (below_alloc (Below.refl _ _) (.cells #[.int .i64 t.f0, .string t.f1, .int .i64 t.f2, .slice Aa t.f3.length ca] 26))
      have HPPa := Lib.hid hpp
      clear hp hpp he
      rcases then_some hea with ⟨hr, rfl⟩ | ⟨u, sz, hr, hez⟩
      · have PD := Pa.drew
        have qa_0 := Xa.cell 0
        have qa_1 := Xa.cell 1
        have qa_2 := Xa.cell 2
        have qa_3 := Xa.cell 3
        have KP := Lib.hid (HA.none (hra.below (below_drew (Below.refl _ _))) hr)
        clear hr hra
        go_wp2_with fail
        refine wp_region_any (by kernel_rfl) ?_
        change wpAny _ _ _ _ _ _ _ (World.drew _)
        refine wpAny_take (i := 0) (v := .string nm) rfl (by kernel_rfl) (by kernel_rfl) (by kernel_rfl) (fun _ _ _ h => h) (Or.inl ⟨by rfl, ?_⟩) ?_
        · intro w; go_simp
        refine wpAny_take (i := 2) (v := .pointer (some ⟨g, 0, none⟩)) rfl (by kernel_rfl) (by kernel_rfl) (by kernel_rfl) (fun _ _ _ h => h) (Or.inl ⟨by rfl, ?_⟩) ?_
        · intro w; go_simp
        refine wpAny_ready (rs := [1, 3]) (by kernel_rfl) (by simp) ?_
        refine AllReady.cons rfl (fun K hK => ?_) ?_
        · go_simp
          refine hK _ _ ?_
          clear hK K
          refine wpAny_ready (rs := [3]) (by kernel_rfl) (by simp) ?_
          refine AllReady.cons rfl (fun K hK => ?_) AllReady.nil
          go_simp
          refine KP.out.mono ?_
          rintro e w3 ⟨hp, b, n, rfl, hb⟩
          exact ⟨rfl, PD.trans hp, _, _, rfl, hb⟩
        refine AllReady.cons rfl (fun K hK => ?_) AllReady.nil
        go_simp
        refine KP.out.mono ?_
        rintro e w3 ⟨hp, b, n, rfl, hb⟩
        exact ⟨rfl, PD.trans hp, _, _, rfl, hb⟩
      · have PD := Pa.drew
        have B2d : Own (xa.alloc (.cells #[.int .i64 t.f0, .string t.f1, .int .i64 t.f2, .slice Aa t.f3.length ca] 26)).drew w.heap.size zeroV 26 := B2
        have Xad : Own (xa.alloc (.cells #[.int .i64 t.f0, .string t.f1, .int .i64 t.f2, .slice Aa t.f3.length ca] 26)).drew xa.heap.size #[.int .i64 t.f0, .string t.f1, .int .i64 t.f2, .slice Aa t.f3.length ca] 26 := Xa
        have hvad := hva.same ((Same.refl _ _).drew)
        have qa_0 := Xa.cell 0
        have qa_1 := Xa.cell 1
        have qa_2 := Xa.cell 2
        have qa_3 := Xa.cell 3
        have KP := Lib.hid (HA.some (hra.below (below_drew (Below.refl _ _))) hr)
        have HE := Lib.hid hez
        clear hr hra hez
        go_wp2_with fail
        go_region_held3 (fun w' => w'.cell? ⟨xa.heap.size, 0, none⟩ = some (.int .i64 t.f0) ∧ w'.cell? ⟨xa.heap.size, 1, none⟩ = some (.string t.f1) ∧ w'.cell? ⟨xa.heap.size, 2, none⟩ = some (.int .i64 t.f2) ∧ w'.cell? ⟨xa.heap.size, 3, none⟩ = some (.slice Aa t.f3.length ca)) (go_keep)
          ((go_at_call 86; refine KP.out.mono ?_; rintro e w3 ⟨A4, c4, pz, rfl, hp, hvz, hppz, hrdz⟩; have B2e := B2d.past hp hne; have qa_0 := (Xad.past hp hnea).cell 0; have qa_1 := (Xad.past hp hnea).cell 1; have qa_2 := (Xad.past hp hnea).cell 2; have qa_3 := (Xad.past hp hnea).cell 3; have B2f := B2e.alloc (.cells #[.int .i64 t.f0, .string t.f1, .int .i64 t.f2, .slice Aa t.f3.length ca, .int .i64 u.f0, .string u.f1, .int .i64 u.f2, .slice A4 u.f3.length c4] 26); have d0 := B2f.cell 0; have d1 := B2f.cell 1; have d2 := B2f.cell 2; have d3 := B2f.cell 3; have dz := fun i => B2f.fz i))
        go_wp2_with fail
        refine ret4 rfl rfl (Own.four B2f) ?_
        have hN3 : (xa.alloc (.cells #[.int .i64 t.f0, .string t.f1, .int .i64 t.f2, .slice Aa t.f3.length ca] 26)).heap.size ≤ w3.heap.size := hp.size
        (try simp only [World.size_alloc] at hN3)
        have e1 := HE.out
        injection e1 with e1
        subst e1
        refine Out.ret HH.out (PD.trans hp) (four_set (w3size := 0) (belowN_alloc (by omega) _)) (by rw [hppz, HPPa.out, HPP.out, HS.out]; simp) hrdz ?_
        exact (TmV.kids2 5 nm ((hvad.mono (base' := w.heap.size + 1) (by omega)).same (((Same.of_past hp (by omega)).alloc _).trans (four_same (Same.refl _ _) (by omega)))) ((hvz.mono (by show w.heap.size + 1 ≤ (xa.alloc (.cells #[.int .i64 t.f0, .string t.f1, .int .i64 t.f2, .slice Aa t.f3.length ca] 26)).heap.size; (try simp only [World.size_alloc]); omega)).same (((Same.refl _ _).alloc _).trans (four_same (Same.refl _ _) (by omega)))) (four_far (blk_new _ _) (by omega)) (by omega)).mono (by omega)
set_option maxRecDepth 100000 in
set_option maxHeartbeats 8000000 in
theorem one_if (k : Nat) (HA : RH 86 .all k) (HO : RH 131 .one k) (HL : RH 177 .plain k) (g : Nat) (A : Option Addr) (c : Nat) (E : Value) (p s : List TokT) (w : World) (res : Option (Tm × List TokT)) (h : Rd g A c E p s w) (n0 : isL s kFun = false) (n1 : isL s kLet = false) (hq : isL s kIf = true) (hrun : ((run k .all s.tail).key kThen fun c s => (run k .all s).key kElse fun x s => (run k .all s).then_ fun y s => PR.ret (tm 6 noName [c, x, y]) s) = some res) :
    Calls Tryz.prog 131 #[.pointer (some ⟨g, 0, none⟩)] w fun e w' => Out g A c E p s w res e w' := by
  have h0 := h.below (below_alloc (Below.refl _ _) (.cells zeroV 26))
  have hlt := h.lt
  have hne : w.heap.size ≠ g := by omega
  have HH := Lib.hid h
  have B2 := Own.new w zeroV 26
  have P0 : Past g w (w.alloc (.cells zeroV 26)) := Past.of_below (below_alloc (Below.refl _ _) _)
  have HR := Lib.hid hrun
  have M0 := Lib.hid n0
  have M1 := Lib.hid n1
  have MQ := Lib.hid hq
  clear hrun h n0 n1 hq
  go_enter Tryz.func131, Tryz.ntmps131
  go_wp2_with fail
  refine (take_no kFun h0 M0.out).mono ?_
  rintro e v0 ⟨rfl, hp, h0⟩
  have P0 := P0.trans hp
  have B2 := B2.past hp hne
  clear hp
  go_wp2_with fail
  refine (take_no kLet h0 M1.out).mono ?_
  rintro e v1 ⟨rfl, hp, h0⟩
  have P0 := P0.trans hp
  have B2 := B2.past hp hne
  clear hp
  go_wp2_with fail
  refine (take_yes kIf h0 MQ.out).mono ?_
  rintro e w1 ⟨rfl, hp, y0, hs, h1⟩
  have P1 := P0.trans hp
  have B2 := B2.past hp hne
  have HS := Lib.hid hs
  have hN1 : w.heap.size < w1.heap.size := by have := B2.lt; omega
  clear hp hs
  rcases key_cases HR.out with ⟨hr, rfl⟩ | ⟨t, s1, hr, hm, hea⟩
  · have KP := Lib.hid (upto_none HA h1 hr)
    clear hr h1
    go_wp2_with fail
    refine KP.out.mono ?_
    rintro e wz ⟨hp, b, n, rfl, hb⟩
    have P9 := P1.trans hp
    have HB := Lib.hid hb
    clear hp hb
    go_wp2_with fail
    exact ⟨rfl, P9, _, _, rfl, HB.out⟩
  · have KU := Lib.hid (upto_some HA h1 hr hm)
    clear hr h1 hm
    go_wp2_with fail
    refine KU.out.mono ?_
    rintro e xa ⟨Aa, ca, pa, rfl, hp, hva, hpp, hra⟩
    have Pa := (P1.trans hp).alloc (.cells #[.int .i64 t.f0, .string t.f1, .int .i64 t.f2, .slice Aa t.f3.length ca] 26)
    have hxa : w1.heap.size ≤ xa.heap.size := by have := hp.size; (try simp at this); omega
    have hnea : xa.heap.size ≠ g := by omega
    have hnna : w.heap.size ≠ xa.heap.size := by omega
    have B2 := (B2.past hp hne).alloc (.cells #[.int .i64 t.f0, .string t.f1, .int .i64 t.f2, .slice Aa t.f3.length ca] 26)
    have Xa := Own.new xa #[.int .i64 t.f0, .string t.f1, .int .i64 t.f2, .slice Aa t.f3.length ca] 26
    have hva := hva.same ((Same.refl _ _).alloc (.cells #[.int .i64 t.f0, .string t.f1, .int .i64 t.f2, .slice Aa t.f3.length ca] 26))
    (try simp only [World.size_alloc] at hva)
    have hra := hra.below (below_alloc (Below.refl _ _) (.cells #[.int .i64 t.f0, .string t.f1, .int .i64 t.f2, .slice Aa t.f3.length ca] 26))
    have HPPa := Lib.hid hpp
    clear hp hpp
    rcases key_cases hea with ⟨hr, rfl⟩ | ⟨t2, s2, hr, hm, heb⟩
    · have KP := Lib.hid (upto_none HA hra hr)
      clear hr hra
      go_wp2_with fail
      refine KP.out.mono ?_
      rintro e wz ⟨hp, b, n, rfl, hb⟩
      have P9 := Pa.trans hp
      have HB := Lib.hid hb
      clear hp hb
      go_wp2_with fail
      exact ⟨rfl, P9, _, _, rfl, HB.out⟩
    · have KU := Lib.hid (upto_some HA hra hr hm)
      clear hr hra hm
      go_wp2_with fail
      refine KU.out.mono ?_
      rintro e xb ⟨Ab, cb, pb, rfl, hp, hvb, hpp, hrb⟩
      have Pb := (Pa.trans hp).alloc (.cells #[.int .i64 t2.f0, .string t2.f1, .int .i64 t2.f2, .slice Ab t2.f3.length cb] 26)
      have hxb : xa.heap.size + 1 ≤ xb.heap.size := by have := hp.size; (try simp at this); omega
      have hneb : xb.heap.size ≠ g := by omega
      have hnnb : w.heap.size ≠ xb.heap.size := by omega
      have B2 := (B2.past hp hne).alloc (.cells #[.int .i64 t2.f0, .string t2.f1, .int .i64 t2.f2, .slice Ab t2.f3.length cb] 26)
      have Xb := Own.new xb #[.int .i64 t2.f0, .string t2.f1, .int .i64 t2.f2, .slice Ab t2.f3.length cb] 26
      have hvb := hvb.same ((Same.refl _ _).alloc (.cells #[.int .i64 t2.f0, .string t2.f1, .int .i64 t2.f2, .slice Ab t2.f3.length cb] 26))
      (try simp only [World.size_alloc] at hvb)
      have hrb := hrb.below (below_alloc (Below.refl _ _) (.cells #[.int .i64 t2.f0, .string t2.f1, .int .i64 t2.f2, .slice Ab t2.f3.length cb] 26))
      have HPPb := Lib.hid hpp
      have hnnab : xa.heap.size ≠ xb.heap.size := by omega
      have Xa := (Xa.past hp hnea).alloc (.cells #[.int .i64 t2.f0, .string t2.f1, .int .i64 t2.f2, .slice Ab t2.f3.length cb] 26)
      have hva := hva.same ((Same.of_past hp (by omega)).alloc (.cells #[.int .i64 t2.f0, .string t2.f1, .int .i64 t2.f2, .slice Ab t2.f3.length cb] 26))
      clear hp hpp hea
      rcases then_some heb with ⟨hr, rfl⟩ | ⟨u, sz, hr, hez⟩
      · have PD := Pb.drew
        have qa_0 := Xa.cell 0
        have qa_1 := Xa.cell 1
        have qa_2 := Xa.cell 2
        have qa_3 := Xa.cell 3
        have qb_0 := Xb.cell 0
        have qb_1 := Xb.cell 1
        have qb_2 := Xb.cell 2
        have qb_3 := Xb.cell 3
        have KP := Lib.hid (HA.none (hrb.below (below_drew (Below.refl _ _))) hr)
        clear hr hrb
        go_wp2_with fail
        refine wp_region_any (by kernel_rfl) ?_
        change wpAny _ _ _ _ _ _ _ (World.drew _)
        refine wpAny_take (i := 2) (v := .pointer (some ⟨g, 0, none⟩)) rfl (by kernel_rfl) (by kernel_rfl) (by kernel_rfl) (fun _ _ _ h => h) (Or.inl ⟨by rfl, ?_⟩) ?_
        · intro w; go_simp
        refine wpAny_ready (rs := [0, 1, 3]) (by kernel_rfl) (by simp) ?_
        refine AllReady.cons rfl (fun K hK => ?_) ?_
        · go_simp
          refine hK _ _ ?_
          clear hK K
          refine wpAny_ready (rs := [1, 3]) (by kernel_rfl) (by simp) ?_
          refine AllReady.cons rfl (fun K hK => ?_) ?_
          · go_simp
            refine hK _ _ ?_
            clear hK K
            refine wpAny_ready (rs := [3]) (by kernel_rfl) (by simp) ?_
            refine AllReady.cons rfl (fun K hK => ?_) AllReady.nil
            go_simp
            refine KP.out.mono ?_
            rintro e w3 ⟨hp, b, n, rfl, hb⟩
            exact ⟨rfl, PD.trans hp, _, _, rfl, hb⟩
          refine AllReady.cons rfl (fun K hK => ?_) AllReady.nil
          go_simp
          refine KP.out.mono ?_
          rintro e w3 ⟨hp, b, n, rfl, hb⟩
          exact ⟨rfl, PD.trans hp, _, _, rfl, hb⟩
        refine AllReady.cons rfl (fun K hK => ?_) ?_
        · go_simp
          refine hK _ _ ?_
          clear hK K
          refine wpAny_ready (rs := [0, 3]) (by kernel_rfl) (by simp) ?_
          refine AllReady.cons rfl (fun K hK => ?_) ?_
          · go_simp
            refine hK _ _ ?_
            clear hK K
            refine wpAny_ready (rs := [3]) (by kernel_rfl) (by simp) ?_
            refine AllReady.cons rfl (fun K hK => ?_) AllReady.nil
            go_simp
            refine KP.out.mono ?_
            rintro e w3 ⟨hp, b, n, rfl, hb⟩
            exact ⟨rfl, PD.trans hp, _, _, rfl, hb⟩
          refine AllReady.cons rfl (fun K hK => ?_) AllReady.nil
          go_simp
          refine KP.out.mono ?_
          rintro e w3 ⟨hp, b, n, rfl, hb⟩
          exact ⟨rfl, PD.trans hp, _, _, rfl, hb⟩
        refine AllReady.cons rfl (fun K hK => ?_) AllReady.nil
        go_simp
        refine KP.out.mono ?_
        rintro e w3 ⟨hp, b, n, rfl, hb⟩
        exact ⟨rfl, PD.trans hp, _, _, rfl, hb⟩
      · have PD := Pb.drew
        have B2d : Own (xb.alloc (.cells #[.int .i64 t2.f0, .string t2.f1, .int .i64 t2.f2, .slice Ab t2.f3.length cb] 26)).drew w.heap.size zeroV 26 := B2
        have Xad : Own (xb.alloc (.cells #[.int .i64 t2.f0, .string t2.f1, .int .i64 t2.f2, .slice Ab t2.f3.length cb] 26)).drew xa.heap.size #[.int .i64 t.f0, .string t.f1, .int .i64 t.f2, .slice Aa t.f3.length ca] 26 := Xa
        have hvad := hva.same ((Same.refl _ _).drew)
        have qa_0 := Xa.cell 0
        have qa_1 := Xa.cell 1
        have qa_2 := Xa.cell 2
        have qa_3 := Xa.cell 3
        have Xbd : Own (xb.alloc (.cells #[.int .i64 t2.f0, .string t2.f1, .int .i64 t2.f2, .slice Ab t2.f3.length cb] 26)).drew xb.heap.size #[.int .i64 t2.f0, .string t2.f1, .int .i64 t2.f2, .slice Ab t2.f3.length cb] 26 := Xb
        have hvbd := hvb.same ((Same.refl _ _).drew)
        have qb_0 := Xb.cell 0
        have qb_1 := Xb.cell 1
        have qb_2 := Xb.cell 2
        have qb_3 := Xb.cell 3
        have KP := Lib.hid (HA.some (hrb.below (below_drew (Below.refl _ _))) hr)
        have HE := Lib.hid hez
        clear hr hrb hez
        go_wp2_with fail
        go_region_held3 (fun w' => w'.cell? ⟨xa.heap.size, 0, none⟩ = some (.int .i64 t.f0) ∧ w'.cell? ⟨xa.heap.size, 1, none⟩ = some (.string t.f1) ∧ w'.cell? ⟨xa.heap.size, 2, none⟩ = some (.int .i64 t.f2) ∧ w'.cell? ⟨xa.heap.size, 3, none⟩ = some (.slice Aa t.f3.length ca) ∧ w'.cell? ⟨xb.heap.size, 0, none⟩ = some (.int .i64 t2.f0) ∧ w'.cell? ⟨xb.heap.size, 1, none⟩ = some (.string t2.f1) ∧ w'.cell? ⟨xb.heap.size, 2, none⟩ = some (.int .i64 t2.f2) ∧ w'.cell? ⟨xb.heap.size, 3, none⟩ = some (.slice Ab t2.f3.length cb)) (go_keep)
          ((go_at_call 86; refine KP.out.mono ?_; rintro e w3 ⟨A4, c4, pz, rfl, hp, hvz, hppz, hrdz⟩; have B2e := B2d.past hp hne; have qa_0 := (Xad.past hp hnea).cell 0; have qa_1 := (Xad.past hp hnea).cell 1; have qa_2 := (Xad.past hp hnea).cell 2; have qa_3 := (Xad.past hp hnea).cell 3; have qb_0 := (Xbd.past hp hneb).cell 0; have qb_1 := (Xbd.past hp hneb).cell 1; have qb_2 := (Xbd.past hp hneb).cell 2; have qb_3 := (Xbd.past hp hneb).cell 3; have B2f := B2e.alloc (.cells #[.int .i64 t.f0, .string t.f1, .int .i64 t.f2, .slice Aa t.f3.length ca, .int .i64 t2.f0, .string t2.f1, .int .i64 t2.f2, .slice Ab t2.f3.length cb, .int .i64 u.f0, .string u.f1, .int .i64 u.f2, .slice A4 u.f3.length c4] 26); have d0 := B2f.cell 0; have d1 := B2f.cell 1; have d2 := B2f.cell 2; have d3 := B2f.cell 3; have dz := fun i => B2f.fz i))
        go_wp2_with fail
        refine ret4 rfl rfl (Own.four B2f) ?_
        have hN3 : (xb.alloc (.cells #[.int .i64 t2.f0, .string t2.f1, .int .i64 t2.f2, .slice Ab t2.f3.length cb] 26)).heap.size ≤ w3.heap.size := hp.size
        (try simp only [World.size_alloc] at hN3)
        have e1 := HE.out
        injection e1 with e1
        subst e1
        refine Out.ret HH.out (PD.trans hp) (four_set (w3size := 0) (belowN_alloc (by omega) _)) (by rw [hppz, HPPb.out, HPPa.out, HS.out]; simp) hrdz ?_
        exact (TmV.kids3 6 noName ((hvad.mono (base' := w.heap.size + 1) (by omega)).same (((Same.of_past hp (by omega)).alloc _).trans (four_same (Same.refl _ _) (by omega)))) ((hvbd.mono (base' := w.heap.size + 1) (by omega)).same (((Same.of_past hp (by omega)).alloc _).trans (four_same (Same.refl _ _) (by omega)))) ((hvz.mono (by show w.heap.size + 1 ≤ (xb.alloc (.cells #[.int .i64 t2.f0, .string t2.f1, .int .i64 t2.f2, .slice Ab t2.f3.length cb] 26)).heap.size; (try simp only [World.size_alloc]); omega)).same (((Same.refl _ _).alloc _).trans (four_same (Same.refl _ _) (by omega)))) (four_far (blk_new _ _) (by omega)) (by omega)).mono (by omega)
set_option maxRecDepth 100000 in
set_option maxHeartbeats 8000000 in
theorem one_try (k : Nat) (HA : RH 86 .all k) (HO : RH 131 .one k) (HL : RH 177 .plain k) (g : Nat) (A : Option Addr) (c : Nat) (E : Value) (p s : List TokT) (w : World) (res : Option (Tm × List TokT)) (h : Rd g A c E p s w) (n0 : isL s kFun = false) (n1 : isL s kLet = false) (n2 : isL s kIf = false) (n3 : isL s kWhile = false) (n4 : isL s kRaise = false) (hq : isL s kTry = true) (hrun : ((run k .all s.tail).key kWith fun x s => PR.name (boundL s mArrow) fun n s => (run k .all s).then_ fun y s => PR.ret (tm 9 n [x, y]) s) = some res) :
    Calls Tryz.prog 131 #[.pointer (some ⟨g, 0, none⟩)] w fun e w' => Out g A c E p s w res e w' := by
  have h0 := h.below (below_alloc (Below.refl _ _) (.cells zeroV 26))
  have hlt := h.lt
  have hne : w.heap.size ≠ g := by omega
  have HH := Lib.hid h
  have B2 := Own.new w zeroV 26
  have P0 : Past g w (w.alloc (.cells zeroV 26)) := Past.of_below (below_alloc (Below.refl _ _) _)
  have HR := Lib.hid hrun
  have M0 := Lib.hid n0
  have M1 := Lib.hid n1
  have M2 := Lib.hid n2
  have M3 := Lib.hid n3
  have M4 := Lib.hid n4
  have MQ := Lib.hid hq
  clear hrun h n0 n1 n2 n3 n4 hq
  go_enter Tryz.func131, Tryz.ntmps131
  go_wp2_with fail
  refine (take_no kFun h0 M0.out).mono ?_
  rintro e v0 ⟨rfl, hp, h0⟩
  have P0 := P0.trans hp
  have B2 := B2.past hp hne
  clear hp
  go_wp2_with fail
  refine (take_no kLet h0 M1.out).mono ?_
  rintro e v1 ⟨rfl, hp, h0⟩
  have P0 := P0.trans hp
  have B2 := B2.past hp hne
  clear hp
  go_wp2_with fail
  refine (take_no kIf h0 M2.out).mono ?_
  rintro e v2 ⟨rfl, hp, h0⟩
  have P0 := P0.trans hp
  have B2 := B2.past hp hne
  clear hp
  go_wp2_with fail
  refine (take_no kWhile h0 M3.out).mono ?_
  rintro e v3 ⟨rfl, hp, h0⟩
  have P0 := P0.trans hp
  have B2 := B2.past hp hne
  clear hp
  go_wp2_with fail
  refine (take_no kRaise h0 M4.out).mono ?_
  rintro e v4 ⟨rfl, hp, h0⟩
  have P0 := P0.trans hp
  have B2 := B2.past hp hne
  clear hp
  go_wp2_with fail
  refine (take_yes kTry h0 MQ.out).mono ?_
  rintro e w1 ⟨rfl, hp, y0, hs, h1⟩
  have P1 := P0.trans hp
  have B2 := B2.past hp hne
  have HS := Lib.hid hs
  have hN1 : w.heap.size < w1.heap.size := by have := B2.lt; omega
  clear hp hs
  rcases key_cases HR.out with ⟨hr, rfl⟩ | ⟨t, s1, hr, hm, hea⟩
  · have KP := Lib.hid (upto_none HA h1 hr)
    clear hr h1
    go_wp2_with fail
    refine KP.out.mono ?_
    rintro e wz ⟨hp, b, n, rfl, hb⟩
    have P9 := P1.trans hp
    have HB := Lib.hid hb
    clear hp hb
    go_wp2_with fail
    exact ⟨rfl, P9, _, _, rfl, HB.out⟩
  · have KU := Lib.hid (upto_some HA h1 hr hm)
    clear hr h1 hm
    go_wp2_with fail
    refine KU.out.mono ?_
    rintro e xa ⟨Aa, ca, pa, rfl, hp, hva, hpp, hra⟩
    have Pa := (P1.trans hp).alloc (.cells #[.int .i64 t.f0, .string t.f1, .int .i64 t.f2, .slice Aa t.f3.length ca] 26)
    have hxa : w1.heap.size ≤ xa.heap.size := by have := hp.size; (try simp at this); omega
    have hnea : xa.heap.size ≠ g := by omega
    have hnna : w.heap.size ≠ xa.heap.size := by omega
    have B2 := (B2.past hp hne).alloc (.cells #[.int .i64 t.f0, .string t.f1, .int .i64 t.f2, .slice Aa t.f3.length ca] 26)
    have Xa := Own.new xa #[.int .i64 t.f0, .string t.f1, .int .i64 t.f2, .slice Aa t.f3.length ca] 26
    have hva := hva.same ((Same.refl _ _).alloc (.cells #[.int .i64 t.f0, .string t.f1, .int .i64 t.f2, .slice Aa t.f3.length ca] 26))
    (try simp only [World.size_alloc] at hva)
    have hra := hra.below (below_alloc (Below.refl _ _) (.cells #[.int .i64 t.f0, .string t.f1, .int .i64 t.f2, .slice Aa t.f3.length ca] 26))
    have HPPa := Lib.hid hpp
    clear hp hpp
    rcases name_some hea with ⟨hb, rfl⟩ | ⟨nm, s2, hb, he⟩
    · have KP := Lib.hid (bound_no mArrow g A c E _ _ _ hra hb)
      clear hb hra hea
      go_wp2_with fail
      refine KP.out.mono ?_
      rintro e wz ⟨hp, b, n, rfl, hb⟩
      have P9 := Pa.trans hp
      have HB := Lib.hid hb
      clear hp hb
      go_wp2_with fail
      exact ⟨rfl, P9, _, _, rfl, HB.out⟩
    · have KB := Lib.hid (boundC hra hb)
      clear hb hra hea
      go_wp2_with fail
      refine KB.out.mono ?_
      rintro e w2 ⟨rfl, hp, p2, hpp, h2⟩
      have P2 := Pa.trans hp
      have B2 := B2.past hp hne
      have Xa := Xa.past hp hnea
      have hva := hva.same (Same.of_past hp (by omega))
      have hN2 : xa.heap.size + 1 ≤ w2.heap.size := by have := hp.size; (try simp at this); omega
      have HPP := Lib.hid hpp
      clear hp hpp
      rcases then_some he with ⟨hr, rfl⟩ | ⟨u, sz, hr, hez⟩
      · have PD := P2.drew
        have qa_0 := Xa.cell 0
        have qa_1 := Xa.cell 1
        have qa_2 := Xa.cell 2
        have qa_3 := Xa.cell 3
        have KP := Lib.hid (HA.none (h2.below (below_drew (Below.refl _ _))) hr)
        clear hr h2
        go_wp2_with fail
        refine wp_region_any (by kernel_rfl) ?_
        change wpAny _ _ _ _ _ _ _ (World.drew _)
        refine wpAny_take (i := 0) (v := .string nm) rfl (by kernel_rfl) (by kernel_rfl) (by kernel_rfl) (fun _ _ _ h => h) (Or.inl ⟨by rfl, ?_⟩) ?_
        · intro w; go_simp
        refine wpAny_take (i := 2) (v := .pointer (some ⟨g, 0, none⟩)) rfl (by kernel_rfl) (by kernel_rfl) (by kernel_rfl) (fun _ _ _ h => h) (Or.inl ⟨by rfl, ?_⟩) ?_
        · intro w; go_simp
        refine wpAny_ready (rs := [1, 3]) (by kernel_rfl) (by simp) ?_
        refine AllReady.cons rfl (fun K hK => ?_) ?_
        · go_simp
          refine hK _ _ ?_
          clear hK K
          refine wpAny_ready (rs := [3]) (by kernel_rfl) (by simp) ?_
          refine AllReady.cons rfl (fun K hK => ?_) AllReady.nil
          go_simp
          refine KP.out.mono ?_
          rintro e w3 ⟨hp, b, n, rfl, hb⟩
          exact ⟨rfl, PD.trans hp, _, _, rfl, hb⟩
        refine AllReady.cons rfl (fun K hK => ?_) AllReady.nil
        go_simp
        refine KP.out.mono ?_
        rintro e w3 ⟨hp, b, n, rfl, hb⟩
        exact ⟨rfl, PD.trans hp, _, _, rfl, hb⟩
      · have PD := P2.drew
        have B2d : Own w2.drew w.heap.size zeroV 26 := B2
        have Xad : Own w2.drew xa.heap.size #[.int .i64 t.f0, .string t.f1, .int .i64 t.f2, .slice Aa t.f3.length ca] 26 := Xa
        have hvad := hva.same ((Same.refl _ _).drew)
        have qa_0 := Xa.cell 0
        have qa_1 := Xa.cell 1
        have qa_2 := Xa.cell 2
        have qa_3 := Xa.cell 3
        have KP := Lib.hid (HA.some (h2.below (below_drew (Below.refl _ _))) hr)
        have HE := Lib.hid hez
        clear hr h2 hez
        go_wp2_with fail
        go_region_held3 (fun w' => w'.cell? ⟨xa.heap.size, 0, none⟩ = some (.int .i64 t.f0) ∧ w'.cell? ⟨xa.heap.size, 1, none⟩ = some (.string t.f1) ∧ w'.cell? ⟨xa.heap.size, 2, none⟩ = some (.int .i64 t.f2) ∧ w'.cell? ⟨xa.heap.size, 3, none⟩ = some (.slice Aa t.f3.length ca)) (go_keep)
          ((go_at_call 86; refine KP.out.mono ?_; rintro e w3 ⟨A4, c4, pz, rfl, hp, hvz, hppz, hrdz⟩; have B2e := B2d.past hp hne; have qa_0 := (Xad.past hp hnea).cell 0; have qa_1 := (Xad.past hp hnea).cell 1; have qa_2 := (Xad.past hp hnea).cell 2; have qa_3 := (Xad.past hp hnea).cell 3; have B2f := B2e.alloc (.cells #[.int .i64 t.f0, .string t.f1, .int .i64 t.f2, .slice Aa t.f3.length ca, .int .i64 u.f0, .string u.f1, .int .i64 u.f2, .slice A4 u.f3.length c4] 26); have d0 := B2f.cell 0; have d1 := B2f.cell 1; have d2 := B2f.cell 2; have d3 := B2f.cell 3; have dz := fun i => B2f.fz i))
        go_wp2_with fail
        refine ret4 rfl rfl (Own.four B2f) ?_
        have hN3 : w2.heap.size ≤ w3.heap.size := hp.size
        (try simp only [World.size_alloc] at hN3)
        have e1 := HE.out
        injection e1 with e1
        subst e1
        refine Out.ret HH.out (PD.trans hp) (four_set (w3size := 0) (belowN_alloc (by omega) _)) (by rw [hppz, HPP.out, HPPa.out, HS.out]; simp) hrdz ?_
        exact (TmV.kids2 9 nm ((hvad.mono (base' := w.heap.size + 1) (by omega)).same (((Same.of_past hp (by omega)).alloc _).trans (four_same (Same.refl _ _) (by omega)))) ((hvz.mono (by show w.heap.size + 1 ≤ w2.heap.size; (try simp only [World.size_alloc]); omega)).same (((Same.refl _ _).alloc _).trans (four_same (Same.refl _ _) (by omega)))) (four_far (blk_new _ _) (by omega)) (by omega)).mono (by omega)
set_option maxRecDepth 100000 in
set_option maxHeartbeats 8000000 in
theorem one_plain (k : Nat) (HA : RH 86 .all k) (HO : RH 131 .one k) (HL : RH 177 .plain k) (g : Nat) (A : Option Addr) (c : Nat) (E : Value) (p s : List TokT) (w : World) (res : Option (Tm × List TokT)) (h : Rd g A c E p s w) (n0 : isL s kFun = false) (n1 : isL s kLet = false) (n2 : isL s kIf = false) (n3 : isL s kWhile = false) (n4 : isL s kRaise = false) (n5 : isL s kTry = false) (hrun : run k .plain s = some res) :
    Calls Tryz.prog 131 #[.pointer (some ⟨g, 0, none⟩)] w fun e w' => Out g A c E p s w res e w' := by
  have h0 := h.below (below_alloc (Below.refl _ _) (.cells zeroV 26))
  have hlt := h.lt
  have hne : w.heap.size ≠ g := by omega
  have HH := Lib.hid h
  have B2 := Own.new w zeroV 26
  have P0 : Past g w (w.alloc (.cells zeroV 26)) := Past.of_below (below_alloc (Below.refl _ _) _)
  have HR := Lib.hid hrun
  have M0 := Lib.hid n0
  have M1 := Lib.hid n1
  have M2 := Lib.hid n2
  have M3 := Lib.hid n3
  have M4 := Lib.hid n4
  have M5 := Lib.hid n5
  clear hrun h n0 n1 n2 n3 n4 n5
  go_enter Tryz.func131, Tryz.ntmps131
  go_wp2_with fail
  refine (take_no kFun h0 M0.out).mono ?_
  rintro e v0 ⟨rfl, hp, h0⟩
  have P0 := P0.trans hp
  have B2 := B2.past hp hne
  clear hp
  go_wp2_with fail
  refine (take_no kLet h0 M1.out).mono ?_
  rintro e v1 ⟨rfl, hp, h0⟩
  have P0 := P0.trans hp
  have B2 := B2.past hp hne
  clear hp
  go_wp2_with fail
  refine (take_no kIf h0 M2.out).mono ?_
  rintro e v2 ⟨rfl, hp, h0⟩
  have P0 := P0.trans hp
  have B2 := B2.past hp hne
  clear hp
  go_wp2_with fail
  refine (take_no kWhile h0 M3.out).mono ?_
  rintro e v3 ⟨rfl, hp, h0⟩
  have P0 := P0.trans hp
  have B2 := B2.past hp hne
  clear hp
  go_wp2_with fail
  refine (take_no kRaise h0 M4.out).mono ?_
  rintro e v4 ⟨rfl, hp, h0⟩
  have P0 := P0.trans hp
  have B2 := B2.past hp hne
  clear hp
  go_wp2_with fail
  refine (take_no kTry h0 M5.out).mono ?_
  rintro e v5 ⟨rfl, hp, h0⟩
  have P0 := P0.trans hp
  have B2 := B2.past hp hne
  clear hp
  go_wp2_with fail
  have HNV := Lib.hid B2.lt
  cases res with
  | none =>
    have KP := Lib.hid (HL.none h0 HR.out)
    clear h0
    refine KP.out.mono ?_
    rintro e wz ⟨hp, b, n, rfl, hb⟩
    have P9 := P0.trans hp
    have HB := Lib.hid hb
    clear hp hb
    go_wp2_with fail
    exact ⟨rfl, P9, _, _, rfl, HB.out⟩
  | some r =>
    obtain ⟨t, sz⟩ := r
    have KP := Lib.hid (HL.some h0 HR.out)
    clear h0
    refine KP.out.mono ?_
    rintro e w3 ⟨A3, c3, p3, rfl, hp, hv, hpp, hrdz⟩
    have PZ := P0.trans hp
    have B2 := B2.past hp hne
    have hNv := B2.lt
    have hN5 : w.heap.size < v5.heap.size := HNV.out
    have d0 := B2.cell 0
    have d1 := B2.cell 1
    have d2 := B2.cell 2
    have d3 := B2.cell 3
    have dz := fun i => B2.fz i
    have HPP3 := Lib.hid hpp
    clear hpp
    go_wp2_with fail
    refine ret4 rfl rfl (Own.four B2) ?_
    exact Out.ret HH.out PZ (four_set (w3size := 0) (Below.refl _ _)) HPP3.out hrdz ((hv.same (four_same (Same.refl _ _) (by omega))).mono (by omega))
theorem one_step (k : Nat) (HA : RH 86 .all k) (HO : RH 131 .one k) (HL : RH 177 .plain k) : RH 131 .one (k + 1) := by
  intro g A c E p s w res h hrun
  rw [run_one] at hrun
  cases n0 : isL s kFun with
  | true => rw [n0, if_pos rfl] at hrun; exact one_fun k HA HO HL g A c E p s w res h  n0 hrun
  | false =>
    rw [n0, if_neg (by decide)] at hrun
    cases n1 : isL s kLet with
    | true => rw [n1, if_pos rfl] at hrun; exact one_let k HA HO HL g A c E p s w res h n0 n1 hrun
    | false =>
      rw [n1, if_neg (by decide)] at hrun
      cases n2 : isL s kIf with
      | true => rw [n2, if_pos rfl] at hrun; exact one_if k HA HO HL g A c E p s w res h n0 n1 n2 hrun
      | false =>
        rw [n2, if_neg (by decide)] at hrun
        cases n3 : isL s kWhile with
        | true => rw [n3, if_pos rfl] at hrun; exact one_while k HA HO HL g A c E p s w res h n0 n1 n2 n3 hrun
        | false =>
          rw [n3, if_neg (by decide)] at hrun
          cases n4 : isL s kRaise with
          | true => rw [n4, if_pos rfl] at hrun; exact one_raise k HA HO HL g A c E p s w res h n0 n1 n2 n3 n4 hrun
          | false =>
            rw [n4, if_neg (by decide)] at hrun
            cases n5 : isL s kTry with
            | true => rw [n5, if_pos rfl] at hrun; exact one_try k HA HO HL g A c E p s w res h n0 n1 n2 n3 n4 n5 hrun
            | false =>
              rw [n5, if_neg (by decide)] at hrun
              exact one_plain k HA HO HL g A c E p s w res h n0 n1 n2 n3 n4 n5 hrun
end Go.Proofs.YtchekgnacodolaaGreatDoor.X
end
section
namespace Go.Proofs.YtchekgnacodolaaGreatDoor.X
open Go.RowKit Go.Proofs.YtchekgnacodolaaGreatDoorW.PrintWords Go.Proofs.YtchekgnacodolaaGreatDoorW.PrintLast Go.Proofs.YtchekgnacodolaaGreatDoorW.PrintMore
set_option linter.unusedSimpArgs false
set_option linter.unusedVariables false
theorem run_plain (k : Nat) (s : List TokT) : run (k + 1) .plain s = (run k .parts s).then_ fun t s =>
    if isL s mSet = true then (run k .one s.tail).then_ fun u s => PR.ret (tm 11 noName [t, u]) s
    else match opWords.find? (isL s) with
      | some o => (run k .parts s.tail).then_ fun u s => PR.ret (tm 12 o [t, u]) s
      | none => PR.ret t s := rfl
theorem op_find {f : ByteArray → Bool} {n : Nat} {o : ByteArray} (h : opWords[n]? = some o) (hf : f o = true) (hn : ∀ x ∈ opWords.take n, f x = false) : opWords.find? f = some o := by
  have hd : opWords = opWords.take n ++ o :: opWords.drop (n + 1) := by
    have hlt : n < opWords.length := by
      rcases Nat.lt_or_ge n opWords.length with h1 | h1
      · exact h1
      · rw [List.getElem?_eq_none h1] at h; cases h
    rw [List.getElem?_eq_getElem hlt] at h
    injection h with h
    rw [← h, ← List.drop_eq_getElem_cons hlt, List.take_append_drop]
  rw [hd, List.find?_append, List.find?_eq_none.2 (fun x hx => by rw [hn x hx]; decide), List.find?_cons_of_pos (l := opWords.drop (n + 1)) hf]; rfl
abbrev opVals : Array Value := #[.string ⟨#[43]⟩, .string ⟨#[45]⟩, .string ⟨#[42]⟩, .string ⟨#[60]⟩, .string ⟨#[61]⟩]
theorem op_cell {n : Nat} {o : ByteArray} (h : opWords[n]? = some o) : opVals[n]? = some (.string o) := by
  have e : opVals = (opWords.map Value.string).toArray := rfl
  rw [e, List.getElem?_toArray, List.getElem?_map, h]; rfl
theorem op_some {n : Nat} (h : n < 5) : ∃ o, opWords[n]? = some o := ⟨opWords[n]'h, List.getElem?_eq_getElem h⟩
structure Ops (g : Nat) (A : Option Addr) (c : Nat) (E : Value) (p s : List TokT) (w : World) (xs b5 : Nat) (t : Tm) (Aa : Option Addr) (ca : Nat) (pa s1 : List TokT) (gk : Nat) (i : Value) (wr : World) : Prop where
  ex : ∃ n : Nat, n ≤ 5 ∧ gk = 5 - n ∧ i = .int .i64 n ∧ (∀ o ∈ opWords.take n, isL s1 o = false)
  rd : Rd g A c E pa s1 wr
  past : Past g w wr
  res : Own wr w.heap.size zeroV 26
  x : Own wr xs #[.int .i64 t.f0, .string t.f1, .int .i64 t.f2, .slice Aa t.f3.length ca] 26
  strs : Own wr b5 opVals 9
  tm : TmV (w.heap.size + 1) wr t (.agg #[.int .i64 t.f0, .string t.f1, .int .i64 t.f2, .slice Aa t.f3.length ca])
set_option maxRecDepth 100000 in
set_option maxHeartbeats 8000000 in
theorem plain_step (k : Nat) (HS : RH 197 .parts k) (HO : RH 131 .one k) : RH 177 .plain (k + 1) := by
  intro g A c E p s w res h hrun
  rw [run_plain] at hrun
  have h0 := h.below (below_alloc (Below.refl _ _) (.cells zeroV 26))
  have hlt := h.lt
  have hne : w.heap.size ≠ g := by omega
  have HH := Lib.hid h
  have B2 := Own.new w zeroV 26
  have P0 : Past g w (w.alloc (.cells zeroV 26)) := Past.of_below (below_alloc (Below.refl _ _) _)
  rcases then_some hrun with ⟨hr, rfl⟩ | ⟨t, s1, hr, he⟩
  · have KP := Lib.hid (HS.none h0 hr)
    clear hr h0 h hrun
    go_enter Tryz.func177, Tryz.ntmps177
    go_wp2_with fail
    refine KP.out.mono ?_
    rintro e wz ⟨hp, b, n, rfl, hb⟩
    have P9 := P0.trans hp
    have HB := Lib.hid hb
    clear hp hb
    go_wp2_with fail
    exact ⟨rfl, P9, _, _, rfl, HB.out⟩
  · have KP := Lib.hid (HS.some h0 hr)
    have HE := Lib.hid he
    clear hr h0 h hrun he
    go_enter Tryz.func177, Tryz.ntmps177
    go_wp2_with fail
    refine KP.out.mono ?_
    rintro e xa ⟨Aa, ca, pa, rfl, hp, hva, hpp, hra⟩
    have hxa : w.heap.size < xa.heap.size := by have := hp.size; (try simp at this); omega
    have hnea : xa.heap.size ≠ g := by omega
    have hnna : w.heap.size ≠ xa.heap.size := by omega
    have Pa := (P0.trans hp).alloc (.cells #[.int .i64 t.f0, .string t.f1, .int .i64 t.f2, .slice Aa t.f3.length ca] 26)
    have B2 := (B2.past hp hne).alloc (.cells #[.int .i64 t.f0, .string t.f1, .int .i64 t.f2, .slice Aa t.f3.length ca] 26)
    have Xa := Own.new xa #[.int .i64 t.f0, .string t.f1, .int .i64 t.f2, .slice Aa t.f3.length ca] 26
    have hva := hva.same ((Same.refl _ _).alloc (.cells #[.int .i64 t.f0, .string t.f1, .int .i64 t.f2, .slice Aa t.f3.length ca] 26))
    (try simp only [World.size_alloc] at hva)
    have hra := hra.below (below_alloc (Below.refl _ _) (.cells #[.int .i64 t.f0, .string t.f1, .int .i64 t.f2, .slice Aa t.f3.length ca] 26))
    have HPPa := Lib.hid hpp
    clear hp hpp
    go_wp2_with fail
    cases hq : isL s1 mSet with
    | true =>
      have K := Lib.hid (take_yes mSet hra hq)
      have he := HE.out
      rw [hq, if_pos rfl] at he
      clear hq hra
      refine K.out.mono ?_
      rintro e w2 ⟨rfl, hp, y, hs, h2⟩
      have P2 := Pa.trans hp
      have B2 := B2.past hp hne
      have Xa := Xa.past hp hnea
      have hva := hva.same (Same.of_past hp (by omega))
      have hN2 : xa.heap.size + 1 ≤ w2.heap.size := by have := hp.size; (try simp at this); omega
      have HS2 := Lib.hid hs
      clear hp hs
      rcases then_some he with ⟨hr, rfl⟩ | ⟨u, sz, hr, hez⟩
      · have PD := P2.drew
        have qa_0 := Xa.cell 0
        have qa_1 := Xa.cell 1
        have qa_2 := Xa.cell 2
        have qa_3 := Xa.cell 3
        have KP := Lib.hid (HO.none (h2.below (below_drew (Below.refl _ _))) hr)
        clear hr h2
        go_wp2_with fail
        refine wp_region_any (by kernel_rfl) ?_
        change wpAny _ _ _ _ _ _ _ (World.drew _)
        refine wpAny_take (i := 1) (v := .pointer (some ⟨g, 0, none⟩)) rfl (by kernel_rfl) (by kernel_rfl) (by kernel_rfl) (fun _ _ _ h => h) (Or.inl ⟨by rfl, ?_⟩) ?_
        · intro w; go_simp
        refine wpAny_ready (rs := [0, 2]) (by kernel_rfl) (by simp) ?_
        refine AllReady.cons rfl (fun K hK => ?_) ?_
        · go_simp
          refine hK _ _ ?_
          clear hK K
          refine wpAny_ready (rs := [2]) (by kernel_rfl) (by simp) ?_
          refine AllReady.cons rfl (fun K hK => ?_) AllReady.nil
          go_simp
          refine KP.out.mono ?_
          rintro e w3 ⟨hp, b, n, rfl, hb⟩
          exact ⟨rfl, PD.trans hp, _, _, rfl, hb⟩
        refine AllReady.cons rfl (fun K hK => ?_) AllReady.nil
        go_simp
        refine KP.out.mono ?_
        rintro e w3 ⟨hp, b, n, rfl, hb⟩
        exact ⟨rfl, PD.trans hp, _, _, rfl, hb⟩
      · have PD := P2.drew
        have B2d : Own w2.drew w.heap.size zeroV 26 := B2
        have Xad : Own w2.drew xa.heap.size #[.int .i64 t.f0, .string t.f1, .int .i64 t.f2, .slice Aa t.f3.length ca] 26 := Xa
        have hvad := hva.same ((Same.refl _ _).drew)
        have qa_0 := Xa.cell 0
        have qa_1 := Xa.cell 1
        have qa_2 := Xa.cell 2
        have qa_3 := Xa.cell 3
        have KP := Lib.hid (HO.some (h2.below (below_drew (Below.refl _ _))) hr)
        have HE := Lib.hid hez
        clear hr h2 hez
        go_wp2_with fail
        go_region_held3 (fun w' => w'.cell? ⟨xa.heap.size, 0, none⟩ = some (.int .i64 t.f0) ∧ w'.cell? ⟨xa.heap.size, 1, none⟩ = some (.string t.f1) ∧ w'.cell? ⟨xa.heap.size, 2, none⟩ = some (.int .i64 t.f2) ∧ w'.cell? ⟨xa.heap.size, 3, none⟩ = some (.slice Aa t.f3.length ca)) (go_keep)
          ((go_at_call 131; refine KP.out.mono ?_; rintro e w3 ⟨A4, c4, pz, rfl, hp, hvz, hppz, hrdz⟩; have B2e := B2d.past hp hne; have qa_0 := (Xad.past hp hnea).cell 0; have qa_1 := (Xad.past hp hnea).cell 1; have qa_2 := (Xad.past hp hnea).cell 2; have qa_3 := (Xad.past hp hnea).cell 3; have B2f := B2e.alloc (.cells #[.int .i64 t.f0, .string t.f1, .int .i64 t.f2, .slice Aa t.f3.length ca, .int .i64 u.f0, .string u.f1, .int .i64 u.f2, .slice A4 u.f3.length c4] 26); have d0 := B2f.cell 0; have d1 := B2f.cell 1; have d2 := B2f.cell 2; have d3 := B2f.cell 3; have dz := fun i => B2f.fz i))
        go_wp2_with fail
        refine ret4 rfl rfl (Own.four B2f) ?_
        have hN3 : w2.heap.size ≤ w3.heap.size := hp.size
        (try simp only [World.size_alloc] at hN3)
        have e1 := HE.out
        injection e1 with e1
        subst e1
        refine Out.ret HH.out (PD.trans hp) (four_set (w3size := 0) (belowN_alloc (by omega) _)) (by rw [hppz, ← HPPa.out, HS2.out]; simp) hrdz ?_
        exact (TmV.kids2 11 noName ((hvad.mono (base' := w.heap.size + 1) (by omega)).same (((Same.of_past hp (by omega)).alloc _).trans (four_same (Same.refl _ _) (by omega)))) ((hvz.mono (by show w.heap.size + 1 ≤ w2.heap.size; (try simp only [World.size_alloc]); omega)).same (((Same.refl _ _).alloc _).trans (four_same (Same.refl _ _) (by omega)))) (four_far (blk_new _ _) (by omega)) (by omega)).mono (by omega)
    | false =>
      have K := Lib.hid (take_no mSet hra hq)
      have he := HE.out
      rw [hq, if_neg (by decide)] at he
      have HE := Lib.hid he
      clear hq hra he
      refine K.out.mono ?_
      rintro e w2 ⟨rfl, hp, h2⟩
      have P2 := Pa.trans hp
      have B2 := B2.past hp hne
      have Xa := Xa.past hp hnea
      have hva := hva.same (Same.of_past hp (by omega))
      have hN2 : xa.heap.size + 1 ≤ w2.heap.size := by have := hp.size; (try simp at this); omega
      have H0 := Lib.hid (Ops.mk (g := g) (A := A) (c := c) (E := E) (p := p) (s := s) (w := w) (xs := xa.heap.size) (b5 := w2.heap.size) (t := t) (Aa := Aa) (ca := ca) (pa := pa) (s1 := s1) (gk := 5) (i := .int .i64 0) (wr := w2.alloc (.cells opVals 9))
        ⟨0, by omega, rfl, rfl, fun o ho => by cases ho⟩ (h2.below (below_alloc (Below.refl _ _) _)) (P2.alloc _) (B2.alloc _) (Xa.alloc _) (Own.new w2 _ _) (hva.same ((Same.refl _ _).alloc _)))
      have hne5 : w2.heap.size ≠ g := by omega
      have hnn5 : w.heap.size ≠ w2.heap.size := by omega
      clear hp h2 P2 B2 Xa hva
      go_wp2_with fail
      go_loopg [17] 5 (fun gk i wr => Ops g A c E p s w xa.heap.size w2.heap.size t Aa ca pa s1 gk i wr)
      case atStart => exact H0.out
      case round =>
        obtain ⟨⟨n, hn, hgk, rfl, hno⟩, hrd, hP, B2, Xa, X5, hva⟩ := hrel
        have HNO := Lib.hid hno
        clear hno H0
        by_cases hlt5 : n < 5
        · have d5 : decide ((n : Int) < 5) = true := by rw [decide_eq_true_eq]; omega
          obtain ⟨op, hop⟩ := op_some hlt5
          have i0 : (0 : Int) ≤ (n : Int) := by omega
          have i1 : (n : Int) < 5 := by omega
          have s5 : wr.cell? ⟨w2.heap.size, n, none⟩ = some (.string op) := (X5.cell n).trans (op_cell hop)
          have HOP := Lib.hid hop
          have HG := Lib.hid hgk
          clear hop hgk
          cases hq : isL s1 op with
          | false =>
            have K := Lib.hid (take_no op hrd hq)
            have HQ := Lib.hid hq
            clear hq hrd
            go_wp2_with fail
            refine K.out.mono ?_
            rintro e w3 ⟨rfl, hp, hrd⟩
            have X5 := X5.past hp hne5
            have B2 := B2.past hp hne
            have Xa := Xa.past hp hnea
            have hP := hP.trans hp
            have hva := hva.same (Same.of_past hp (by omega))
            clear hp
            go_wp2_with fail
            go_roundg (5 - (n + 1))
            case measure => have := HG.out; omega
            case rel =>
              refine ⟨⟨n + 1, by omega, rfl, by go_num, fun o ho => ?_⟩, hrd, hP, B2, Xa, X5, hva⟩
              rw [List.take_add_one, HOP.out] at ho
              rcases List.mem_append.1 ho with h | h
              · exact HNO.out o h
              · have : o = op := by simpa using h
                rw [this]; exact HQ.out
          | true =>
            have K := Lib.hid (take_yes op hrd hq)
            have he := HE.out
            rw [op_find HOP.out hq HNO.out] at he
            clear hq hrd
            go_wp2_with fail
            refine K.out.mono ?_
            rintro e w3' ⟨rfl, hp, y, hs, h2⟩
            have P2 := hP.trans hp
            have B2 := B2.past hp hne
            have Xa := Xa.past hp hnea
            have hw3 : xa.heap.size < w3'.heap.size := Xa.lt
            have hva := hva.same (Same.of_past hp (by omega))
            have HS2 := Lib.hid hs
            clear hp hs X5 s5 hP
            rcases then_some he with ⟨hr, rfl⟩ | ⟨u, sz, hr, hez⟩
            · have PD := P2.drew
              have qa_0 := Xa.cell 0
              have qa_1 := Xa.cell 1
              have qa_2 := Xa.cell 2
              have qa_3 := Xa.cell 3
              have KP := Lib.hid (HS.none (h2.below (below_drew (Below.refl _ _))) hr)
              clear hr h2
              go_wp2_with fail
              refine wp_region_any (by kernel_rfl) ?_
              change wpAny _ _ _ _ _ _ _ (World.drew _)
              refine wpAny_take (i := 0) (v := .string op) rfl (by kernel_rfl) (by kernel_rfl) (by kernel_rfl) (fun _ _ _ h => h) (Or.inl ⟨by rfl, ?_⟩) ?_
              · intro w; go_simp
              refine wpAny_take (i := 2) (v := .pointer (some ⟨g, 0, none⟩)) rfl (by kernel_rfl) (by kernel_rfl) (by kernel_rfl) (fun _ _ _ h => h) (Or.inl ⟨by rfl, ?_⟩) ?_
              · intro w; go_simp
              refine wpAny_ready (rs := [1, 3]) (by kernel_rfl) (by simp) ?_
              refine AllReady.cons rfl (fun K hK => ?_) ?_
              · go_simp
                refine hK _ _ ?_
                clear hK K
                refine wpAny_ready (rs := [3]) (by kernel_rfl) (by simp) ?_
                refine AllReady.cons rfl (fun K hK => ?_) AllReady.nil
                go_simp
                refine KP.out.mono ?_
                rintro e w3 ⟨hp, b, n, rfl, hb⟩
                exact ⟨rfl, PD.trans hp, _, _, rfl, hb⟩
              refine AllReady.cons rfl (fun K hK => ?_) AllReady.nil
              go_simp
              refine KP.out.mono ?_
              rintro e w3 ⟨hp, b, n, rfl, hb⟩
              exact ⟨rfl, PD.trans hp, _, _, rfl, hb⟩
            · have PD := P2.drew
              have B2d : Own w3'.drew w.heap.size zeroV 26 := B2
              have Xad : Own w3'.drew xa.heap.size #[.int .i64 t.f0, .string t.f1, .int .i64 t.f2, .slice Aa t.f3.length ca] 26 := Xa
              have hvad := hva.same ((Same.refl _ _).drew)
              have qa_0 := Xa.cell 0
              have qa_1 := Xa.cell 1
              have qa_2 := Xa.cell 2
              have qa_3 := Xa.cell 3
              have KP := Lib.hid (HS.some (h2.below (below_drew (Below.refl _ _))) hr)
              have HE := Lib.hid hez
              clear hr h2 hez
              go_wp2_with fail
              go_region_held3 (fun w' => w'.cell? ⟨xa.heap.size, 0, none⟩ = some (.int .i64 t.f0) ∧ w'.cell? ⟨xa.heap.size, 1, none⟩ = some (.string t.f1) ∧ w'.cell? ⟨xa.heap.size, 2, none⟩ = some (.int .i64 t.f2) ∧ w'.cell? ⟨xa.heap.size, 3, none⟩ = some (.slice Aa t.f3.length ca)) (go_keep)
                ((go_at_call 197; refine KP.out.mono ?_; rintro e w3 ⟨A4, c4, pz, rfl, hp, hvz, hppz, hrdz⟩; have B2e := B2d.past hp hne; have qa_0 := (Xad.past hp hnea).cell 0; have qa_1 := (Xad.past hp hnea).cell 1; have qa_2 := (Xad.past hp hnea).cell 2; have qa_3 := (Xad.past hp hnea).cell 3; have B2f := B2e.alloc (.cells #[.int .i64 t.f0, .string t.f1, .int .i64 t.f2, .slice Aa t.f3.length ca, .int .i64 u.f0, .string u.f1, .int .i64 u.f2, .slice A4 u.f3.length c4] 26); have d0 := B2f.cell 0; have d1 := B2f.cell 1; have d2 := B2f.cell 2; have d3 := B2f.cell 3; have dz := fun i => B2f.fz i))
              go_wp2_with fail
              refine ret4 rfl rfl (Own.four B2f) ?_
              have hN3 : w3'.heap.size ≤ w3.heap.size := hp.size
              (try simp only [World.size_alloc] at hN3)
              have e1 := HE.out
              injection e1 with e1
              subst e1
              refine Out.ret HH.out (PD.trans hp) (four_set (w3size := 0) (belowN_alloc (by omega) _)) (by rw [hppz, ← HPPa.out, HS2.out]; simp) hrdz ?_
              exact (TmV.kids2 12 op ((hvad.mono (base' := w.heap.size + 1) (by omega)).same (((Same.of_past hp (by omega)).alloc _).trans (four_same (Same.refl _ _) (by omega)))) ((hvz.mono (by show w.heap.size + 1 ≤ w3'.heap.size; (try simp only [World.size_alloc]); omega)).same (((Same.refl _ _).alloc _).trans (four_same (Same.refl _ _) (by omega)))) (four_far (blk_new _ _) (by omega)) (by omega)).mono (by omega)
        · have d5 : decide ((n : Int) < 5) = false := by rw [decide_eq_false_iff_not]; omega
          have hn5 : n = 5 := by omega
          have he := HE.out
          rw [List.find?_eq_none.2 (fun x hx => by rw [HNO.out x (by rw [hn5]; exact hx)]; decide)] at he
          injection he with he
          have HE := Lib.hid he
          clear he hn5 hgk
          have d0 := B2.cell 0
          have d1 := B2.cell 1
          have d2 := B2.cell 2
          have d3 := B2.cell 3
          have dz := fun i => B2.fz i
          have q0 := Xa.cell 0
          have q1 := Xa.cell 1
          have q2 := Xa.cell 2
          have q3 := Xa.cell 3
          go_wp2_with fail
          refine ret4 rfl rfl (Own.four B2) ?_
          have e1 := HE.out
          subst e1
          exact Out.ret HH.out hP (four_set (w3size := 0) (Below.refl _ _)) HPPa.out hrd ((hva.same (four_same (Same.refl _ _) (by omega))).mono (by omega))
theorem reads_all : ∀ k, RH 215 .part k ∧ RH 197 .parts k ∧ RH 177 .plain k ∧ RH 131 .one k ∧ RH 86 .all k
  | 0 => by
    have z : ∀ f m, RH f m 0 := fun f m g A c E p s w res _ h => by cases h
    exact ⟨z _ _, z _ _, z _ _, z _ _, z _ _⟩
  | k + 1 => by
    obtain ⟨h1, h2, h3, h4, h5⟩ := reads_all k
    exact ⟨part_step k h1 h5, parts_step k h1, plain_step k h2 h4, one_step k h5 h4 h3, all_step k h4 h5⟩
theorem allC {g : Nat} {A : Option Addr} {c : Nat} {E : Value} {p s : List TokT} {w : World} (h : Rd g A c E p s w) :
    Calls Tryz.prog 86 #[.pointer (some ⟨g, 0, none⟩)] w fun e w' => Out g A c E p s w (parseL s) e w' :=
  (reads_all _).2.2.2.2 g A c E p s w _ h (parseL_run s)
end Go.Proofs.YtchekgnacodolaaGreatDoor.X
end

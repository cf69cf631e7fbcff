-- Laid by this session's program out of the translation (gen.sh).
import Derived.Test.YtgdafcakefnpdaaPFnExecOwnx0
import Derived.Test.YtgdafcakefnpdaaPFnExecOwnx3
namespace Go.Proofs.Ytgdafcakefnpdaa.PFnExecOwn
open Go.RowKit Go.Proofs.YtgdafcakefnpdaaW.PrintWords Go.Proofs.YtgdafcakefnpdaaW.PrintLast Go.Proofs.YtgdafcakefnpdaaW.PrintMore
attribute [local go_sem] max2_int min2_int max_two min_two max_three min_three max_four min_four   -- for this text's walks alone
set_option linter.unusedVariables false
set_option linter.unusedSimpArgs false

/-! ### spec_l2Prog: function 92 -/
def spec_l2Prog.l0 : Nat → List (S34) → Int → List Int → Int → Option ((List (S34)) × Int)
 | 0, _, _, _, _ => none
 | k + 1, x5, x6, x1000, x1001 => if x6 > 0 then ((spec_l2Any.f k x1000 x1001).bind fun bt185 => (if x5.length < 4398046511104 then (spec_l2Prog.l0 k (x5 ++ [(⟨bt185.1, bt185.2.1, bt185.2.2.1, bt185.2.2.2.1⟩ : S34)]) (wrap64 (x6 - 1)) x1000 bt185.2.2.2.2) else (none))) else (some (x5, x1001))
def spec_l2Prog.f (k : Nat) (s0_0 : List Int) (s0_1 : Int) : Option ((List (S34)) × Int) := (spec_l15Rd_pick.f k s0_0 s0_1 3).bind fun bt169 => (if bt169.1 = 0 then ((spec_l15Rd_pick.f k s0_0 bt169.2 3).bind fun bt171 => ((spec_l15Rd_pick.f k s0_0 bt171.2 3).bind fun bt173 => ((spec_l15Rd_pick.f k s0_0 bt173.2 3).bind fun bt175 => (some ((([(⟨1, 0, bt171.1, 0⟩ : S34), (⟨3, 1, 0, wrap64 (1 + bt175.1)⟩ : S34), (⟨4, 0, 1, 0⟩ : S34), (⟨2, bt173.1, 0, 0⟩ : S34)] : List (S34))), bt175.2))))) else ((spec_l15Rd_pick.f k s0_0 bt169.2 8).bind fun bt183 => (spec_l2Prog.l0 k (([] : List (S34))) bt183.1 s0_0 bt183.2)))
theorem spec_l2Prog.mono_l : ∀ k, (∀ y0 y1 y2 y3, LeO (spec_l2Prog.l0 k y0 y1 y2 y3) (spec_l2Prog.l0 (k + 1) y0 y1 y2 y3))
 | 0 => fun _ _ _ _ r h => by simp [spec_l2Prog.l0] at h
 | k + 1 => by
  have L0 := spec_l2Prog.mono_l k
  ·intro y0 y1 y2 y3
   unfold spec_l2Prog.l0
   repeat' first
   | (with_reducible exact L0 _ _ _ _)
   | (with_reducible exact spec_l15Rd_pick.mono _ _ _ _)
   | (with_reducible exact spec_l2Any.mono _ _ _)
   | (with_reducible exact LeO.refl _)
   | (with_reducible exact LeO.none _)
   | (with_reducible refine LeO.ite ?_ ?_)
   | (with_reducible refine LeO.bind ?_ (fun _ => ?_))
   | exact L0 _ _ _ _
   | exact spec_l15Rd_pick.mono _ _ _ _
   | exact spec_l2Any.mono _ _ _
   | exact LeO.none _
   | refine LeO.ite ?_ ?_
   | refine LeO.bind ?_ (fun _ => ?_)
theorem spec_l2Prog.mono : ∀ a0 a1 k, LeO (spec_l2Prog.f k a0 a1) (spec_l2Prog.f (k + 1) a0 a1) := by
 intro a0 a1 k
 have L0 := spec_l2Prog.mono_l k
 unfold spec_l2Prog.f
 repeat' first
   | (with_reducible exact L0 _ _ _ _)
   | (with_reducible exact spec_l15Rd_pick.mono _ _ _ _)
   | (with_reducible exact spec_l2Any.mono _ _ _)
   | (with_reducible exact LeO.refl _)
   | (with_reducible exact LeO.none _)
   | (with_reducible refine LeO.ite ?_ ?_)
   | (with_reducible refine LeO.bind ?_ (fun _ => ?_))
   | exact L0 _ _ _ _
   | exact spec_l15Rd_pick.mono _ _ _ _
   | exact spec_l2Any.mono _ _ _
   | exact LeO.none _
   | refine LeO.ite ?_ ?_
   | refine LeO.bind ?_ (fun _ => ?_)
set_option maxHeartbeats 8000000 in
set_option maxRecDepth 100000 in
theorem spec_l2Prog.calls (k : Nat) (g : Nat) (C0 : List Int) (C1 : Int) (r1 : List (S34)) (r2 : Int) (w0 w : World) (hI : IsS110 w0 w g C0 C1) (hB : Below w0.heap.size w0 w) (h : spec_l2Prog.f k C0 C1 = some (r1, r2)) :
  Calls Try.prog 92 #[.pointer (some ⟨g, 0, none⟩)] w fun e w' => ∃ v0_ : Value, e = .returned (v0_) ∧ Kd.R k34 34 w' w.heap.size (fun _ => True) v0_ r1 ∧ IsS110 w0 w' g C0 r2 ∧ Below w0.heap.size w0 w' ∧ KeepBut w w' g none := by
 have ay0 := Try.underlying34; have o0 := Aside0.mk hI; have HK := Aside0.mk (KeepBut.refl w g none); have HL := Aside0.mk hB.size; clear hI; have aP0 := Aside0.mk hB.size; have HB := Aside0.mk hB; clear hB; have H : ((spec_l15Rd_pick.f k C0 C1 3).bind fun B0 => (if B0.1 = 0 then ((spec_l15Rd_pick.f k C0 B0.2 3).bind fun B1 => ((spec_l15Rd_pick.f k C0 B1.2 3).bind fun B2 => ((spec_l15Rd_pick.f k C0 B2.2 3).bind fun B3 => (some ((([(⟨1, 0, B1.1, 0⟩ : S34), (⟨3, 1, 0, wrap64 (1 + B3.1)⟩ : S34), (⟨4, 0, 1, 0⟩ : S34), (⟨2, B2.1, 0, 0⟩ : S34)] : List (S34))), B3.2))))) else ((spec_l15Rd_pick.f k C0 B0.2 8).bind fun B4 => (spec_l2Prog.l0 k (([] : List (S34))) B4.1 C0 B4.2)))) = some (r1, r2) := h; clear h; replace H := Option.bind_eq_some_iff.mp H; obtain ⟨⟨d0, d1⟩, E0, H⟩ := H; (try dsimp only at H); have A2 := Aside0.mk E0; clear E0; by_cases c3 : d0 = 0
 ·rw [if_pos c3] at H; have q0 : (d0 == 0) = true := beq_iff_eq.mpr c3; have q1 : (d0 != 0) = false := bne_eq_false_iff_eq.mpr c3; clear c3; replace H := Option.bind_eq_some_iff.mp H; obtain ⟨⟨d2, d3⟩, E1, H⟩ := H; (try dsimp only at H); have A4 := Aside0.mk E1; clear E1; replace H := Option.bind_eq_some_iff.mp H; obtain ⟨⟨d4, d5⟩, E2, H⟩ := H; (try dsimp only at H); have A5 := Aside0.mk E2; clear E2; replace H := Option.bind_eq_some_iff.mp H; obtain ⟨⟨d6, d7⟩, E3, H⟩ := H; (try dsimp only at H); have A6 := Aside0.mk E3; clear E3; obtain ⟨F0, J0⟩ : ∃ y_ : List (S34), y_ = (([(⟨1, 0, d2, 0⟩ : S34), (⟨3, 1, 0, wrap64 (1 + d6)⟩ : S34), (⟨4, 0, 1, 0⟩ : S34), (⟨2, d4, 0, 0⟩ : S34)] : List (S34))) := ⟨_, rfl⟩; replace H : (some (F0, d7)) = some (r1, r2) := by first | (rw [J0]; with_reducible exact H) | (have O0 := (Option.bind_some _ _).symm.trans H; rw [J0]; with_reducible exact O0) | (have O0 := (Option.bind_some _ _).symm.trans H; with_reducible exact O0) | with_reducible exact H | (rw [J0]; exact H) | exact H
  have U0 := Aside0.mk J0; clear J0; simp only [Option.some.injEq, Prod.mk.injEq] at H; obtain ⟨rfl, rfl⟩ := H
  go_enter Try.func92, Try.ntmps92
  go_wp2_with (first | ((with_reducible refine gate_callee (f := 91) rfl ?_); refine gl_ 8 Try.func91 #[.pointer (some ⟨g, 0, none⟩), .int .i64 3] ?_; (with_reducible refine (spec_l15Rd_pick.calls k g C0 C1 3 d0 d1 w0 _ ?_ ?_ A2.out).mono ?_); exact zq7f_; exact zq69_; rintro e w7 ⟨rfl, hi, hb, hk⟩; refine ⟨_, rfl, ?_⟩; have n_ := A3_ (KeepBut.trans zq72_ hk (.inl rfl)) (hb) (hi); clear HK HB o0; obtain ⟨HK, HB, o0⟩ := n_; (try clear hb); (try clear hk); (try clear hi)) | ((with_reducible refine gate_callee (f := 91) rfl ?_); refine gl_ 11 Try.func91 #[.pointer (some ⟨g, 0, none⟩), .int .i64 3] ?_; (with_reducible refine (spec_l15Rd_pick.calls k g C0 d1 3 d2 d3 w0 _ ?_ ?_ A4.out).mono ?_); exact zq7f_; exact zq69_; rintro e w8 ⟨rfl, hi, hb, hk⟩; refine ⟨_, rfl, ?_⟩; have n_ := A3_ (KeepBut.trans zq72_ hk (.inl rfl)) (hb) (hi); clear HK HB o0; obtain ⟨HK, HB, o0⟩ := n_; (try clear hb); (try clear hk); (try clear hi)) | ((with_reducible refine gate_callee (f := 91) rfl ?_); refine gl_ 13 Try.func91 #[.pointer (some ⟨g, 0, none⟩), .int .i64 3] ?_; (with_reducible refine (spec_l15Rd_pick.calls k g C0 d3 3 d4 d5 w0 _ ?_ ?_ A5.out).mono ?_); exact zq7f_; exact zq69_; rintro e w9 ⟨rfl, hi, hb, hk⟩; refine ⟨_, rfl, ?_⟩; have n_ := A3_ (KeepBut.trans zq72_ hk (.inl rfl)) (hb) (hi); clear HK HB o0; obtain ⟨HK, HB, o0⟩ := n_; (try clear hb); (try clear hk); (try clear hi)) | ((with_reducible refine gate_callee (f := 91) rfl ?_); refine gl_ 17 Try.func91 #[.pointer (some ⟨g, 0, none⟩), .int .i64 3] ?_; (with_reducible refine (spec_l15Rd_pick.calls k g C0 d5 3 d6 d7 w0 _ ?_ ?_ A6.out).mono ?_); exact zq7f_; exact zq69_; rintro e p0 ⟨rfl, hi, hb, hk⟩; refine ⟨_, rfl, ?_⟩; have n_ := A3_ (KeepBut.trans zq72_ hk (.inl rfl)) (hb) (hi); clear HK HB o0; obtain ⟨HK, HB, o0⟩ := n_; (try clear hb); (try clear hk); (try clear hi)) | ((with_reducible refine gate_dst (N := 23) rfl ?_); refine Kd.R_lit k34 _ 34 ?hg (N := 23) ?hd (xs := ([(⟨1, 0, d2, 0⟩ : S34), (⟨3, 1, 0, wrap64 (1 + d6)⟩ : S34), (⟨4, 0, 1, 0⟩ : S34), (⟨2, d4, 0, 0⟩ : S34)] : List (S34))) (inner := [.int .i64 1, .int .i64 0, .int .i64 d2, .int .i64 0, .int .i64 3, .int .i64 1, .int .i64 0, .int .i64 (wrap64 (1 + d6)), .int .i64 4, .int .i64 0, .int .i64 1, .int .i64 0, .int .i64 2, .int .i64 d4, .int .i64 0, .int .i64 0]) (ok := fun _ => True) (okp := fun _ => True) ?hr ?hp (fun _ hk => hk) trivial (Below.refl _ _) (Nat.le_refl _) (by simp) ?_; (case hd => rfl); (case hg => rfl); (case hr => first | (go_simp; done) | (go_simp; rfl)); (case hp => exact (Reps.c4 (show Kd.M k34 _ _ _ (⟨1, 0, d2, 0⟩ : S34) [.int .i64 1, .int .i64 0, .int .i64 d2, .int .i64 0] from (k34_mkM _ _ _ (⟨1, 0, d2, 0⟩ : S34) )) (Reps.c4 (show Kd.M k34 _ _ _ (⟨3, 1, 0, wrap64 (1 + d6)⟩ : S34) [.int .i64 3, .int .i64 1, .int .i64 0, .int .i64 (wrap64 (1 + d6))] from (k34_mkM _ _ _ (⟨3, 1, 0, wrap64 (1 + d6)⟩ : S34) )) (Reps.c4 (show Kd.M k34 _ _ _ (⟨4, 0, 1, 0⟩ : S34) [.int .i64 4, .int .i64 0, .int .i64 1, .int .i64 0] from (k34_mkM _ _ _ (⟨4, 0, 1, 0⟩ : S34) )) (Reps.c4 (show Kd.M k34 _ _ _ (⟨2, d4, 0, 0⟩ : S34) [.int .i64 2, .int .i64 d4, .int .i64 0, .int .i64 0] from (k34_mkM _ _ _ (⟨2, d4, 0, 0⟩ : S34) )) (Reps.none _ _)))))); intro S0 p1 y0 hb am an; clear am an; (first | rw [← U0.out] at y0 | (simp only [Int.reduceToNat] at y0; rw [← U0.out] at y0)); have n_ := A4_ (Kd.R_lower y0 (keep_size (w := w) (g := g) (row := none) zq72_)) (IsS110.below zq7f_ hb) (KeepBut.trans zq72_ (KeepBut.of_below hb g none) (.inl rfl)) (below_step zq69_ hb); clear o0 HK HB; obtain ⟨f0, o0, HK, HB⟩ := n_; clear hb y0))
  go_ret
  exact ⟨_, zq63_, zq13_, zq7f_, zq69_, zq72_⟩
 ·rw [if_neg c3] at H; have q0 : (d0 == 0) = false := beq_eq_false_iff_ne.mpr c3; have q1 : (d0 != 0) = true := bne_iff_ne.mpr c3; obtain ⟨F0, J0⟩ : ∃ y_ : List (S34), y_ = (([] : List (S34))) := ⟨_, rfl⟩; replace H : ((spec_l15Rd_pick.f k C0 d1 8).bind fun B4 => (spec_l2Prog.l0 k F0 B4.1 C0 B4.2)) = some (r1, r2) := by first | (rw [J0]; with_reducible exact H) | (have O0 := (Option.bind_some _ _).symm.trans H; rw [J0]; with_reducible exact O0) | (have O0 := (Option.bind_some _ _).symm.trans H; with_reducible exact O0) | with_reducible exact H | (rw [J0]; exact H) | exact H
  have U0 := Aside0.mk J0; clear J0; replace H := Option.bind_eq_some_iff.mp H; obtain ⟨⟨d2, d3⟩, E1, H⟩ := H; (try dsimp only at H); have E2 := Aside0.mk E1; clear E1; have H' := Aside0.mk H; clear H
  go_enter Try.func92, Try.ntmps92
  go_wp2_with (first | ((with_reducible refine gate_callee (f := 91) rfl ?_); refine gl_ 8 Try.func91 #[.pointer (some ⟨g, 0, none⟩), .int .i64 3] ?_; (with_reducible refine (spec_l15Rd_pick.calls k g C0 C1 3 d0 d1 w0 _ ?_ ?_ A2.out).mono ?_); exact zq7f_; exact zq69_; rintro e p0 ⟨rfl, hi, hb, hk⟩; refine ⟨_, rfl, ?_⟩; have n_ := A3_ (KeepBut.trans zq72_ hk (.inl rfl)) (hb) (hi); clear HK HB o0; obtain ⟨HK, HB, o0⟩ := n_; (try clear hb); (try clear hk); (try clear hi)) | ((with_reducible refine gate_dst (N := 24) rfl ?_); refine Kd.R_lit k34 _ 34 ?hg (N := 24) ?hd (xs := ([] : List (S34))) (inner := []) (ok := fun _ => True) (okp := fun _ => True) ?hr ?hp (fun _ hk => hk) trivial (Below.refl _ _) (Nat.le_refl _) (by simp) ?_; (case hd => rfl); (case hg => rfl); (case hr => first | (go_simp; done) | (go_simp; rfl)); (case hp => exact (Reps.none _ _)); intro S0 p1 y0 hb am an; clear am an; (first | rw [← U0.out] at y0 | (simp only [Int.reduceToNat] at y0; rw [← U0.out] at y0)); have n_ := A4_ (Kd.R_lower y0 (keep_size (w := w) (g := g) (row := none) zq72_)) (IsS110.below zq7f_ hb) (KeepBut.trans zq72_ (KeepBut.of_below hb g none) (.inl rfl)) (below_step zq69_ hb); clear o0 HK HB; obtain ⟨f0, o0, HK, HB⟩ := n_; clear hb y0) | ((with_reducible refine gate_callee (f := 91) rfl ?_); refine gl_ 26 Try.func91 #[.pointer (some ⟨g, 0, none⟩), .int .i64 8] ?_; (with_reducible refine (spec_l15Rd_pick.calls k g C0 d1 8 d2 d3 w0 _ ?_ ?_ E2.out).mono ?_); exact zq7f_; exact zq69_; rintro e p3 ⟨rfl, hi, hb, hk⟩; refine ⟨_, rfl, ?_⟩; have n_ := A4_ (Kd.R_mono (Kd.R_keep (IsS110.apart (show IsS110 w0 _ g C0 d1 from by repeat (first | (with_reducible first | exact o0.out | apply IsS110.alloc | apply IsS110.drewN | apply IsS110.drew | apply IsS110.set_1) | exact o0.out)) zq13_ (by decide)) hk (fun _ h => h.2)) (fun _ h => h.1)) (KeepBut.trans zq72_ hk (.inl rfl)) (hb) (hi); clear f0 HK HB o0; obtain ⟨f0, HK, HB, o0⟩ := n_; (try clear hb)))
  go_loopg [5, 6] k (fun kq v5 v6 w' => ∃ (a0 : List (S34)) (a1 : Int) (a2 : Int), v6 = .int .i64 a1 ∧ Aside0 (spec_l2Prog.l0 kq a0 a1 C0 a2 = some (r1, r2)) ∧ Aside0 (kq ≤ k) ∧ Aside0 (Kd.R k34 34 w' w.heap.size (fun _ => True) v5 a0) ∧ Aside0 (IsS110 w0 w' g C0 a2) ∧ Aside0 (KeepBut w w' g none) ∧ Aside0 (Below w0.heap.size w0 w'))
  case atStart => exact ⟨(F0), (d2), (d3), zq64_, H', ⟨Nat.le_refl _⟩, ⟨zq13_⟩, ⟨zq7f_⟩, ⟨zq72_⟩, ⟨zq69_⟩⟩
  case round =>
   clear H'
   try clear p2
   try clear c3
   try clear q0
   try clear q1
   try clear c4
   try clear p6
   try clear c9
   obtain ⟨a0, a1, a2, rfl, HA, aa0, j0, o0, HK, HB⟩ := hrel
   cases gk with
   | zero => exact absurd HA.out (by simp [spec_l2Prog.l0])
   | succ k1 =>
    have H := HA.out; clear HA; simp only [spec_l2Prog.l0] at H; replace H := ifc_ H
    rcases H with ⟨c18b0, H⟩ | ⟨c18b0, H⟩
    ·change decide (0 < a1) = true at c18b0; replace H := Option.bind_eq_some_iff.mp H; obtain ⟨⟨d4, d5, d6, d7, d8⟩, E3, H⟩ := H; (try dsimp only at H); have E4 := Aside0.mk E3; clear E3; replace H := ifp_ H; obtain ⟨r0, H⟩ := H; have aS0 := Aside0.mk r0; clear r0; obtain ⟨F1, J1⟩ : ∃ y_ : List (S34), y_ = (a0 ++ [(⟨d4, d5, d6, d7⟩ : S34)]) := ⟨_, rfl⟩; replace H : (spec_l2Prog.l0 k1 F1 (wrap64 (a1 - 1)) C0 d8) = some (r1, r2) := by first | (rw [J1]; with_reducible exact H) | (have O0 := (Option.bind_some _ _).symm.trans H; rw [J1]; with_reducible exact O0) | (have O0 := (Option.bind_some _ _).symm.trans H; with_reducible exact O0) | with_reducible exact H | (rw [J1]; exact H) | exact H
     have U1 := Aside0.mk J1; clear J1; have H' := Aside0.mk H; clear H
     go_wp2_with (first | ((with_reducible refine gate_callee (f := 106) rfl ?_); refine gl_ 33 Try.func106 #[.pointer (some ⟨g, 0, none⟩)] ?_; (with_reducible refine (spec_l2Any.calls k1 g C0 a2 d4 d5 d6 d7 d8 w0 _ ?_ ?_ E4.out).mono ?_); exact zq7f_; exact zq69_; rintro e p4 ⟨rfl, hi, hb, hk⟩; refine ⟨_, rfl, ?_⟩; have n_ := A4_ (Kd.R_mono (Kd.R_keep (IsS110.apart (show IsS110 w0 _ g C0 a2 from by repeat (first | (with_reducible first | exact o0.out | apply IsS110.alloc | apply IsS110.drewN | apply IsS110.drew | apply IsS110.set_1) | exact o0.out)) zq25_ (by decide)) hk (fun _ h => h.2)) (fun _ h => h.1)) (KeepBut.trans zq72_ hk (.inl rfl)) (hb) (hi); clear j0 HK HB o0; obtain ⟨j0, HK, HB, o0⟩ := n_; (try clear hb); (try clear hk); (try clear hi)) | ((with_reducible refine gate_builtin (b := .append) (xs := #[.tmp 31, .tmp 34]) rfl ?_); at_builtin; refine Kd.R_append k34 w.heap.size rfl (.tmp 31) (.tmp 34) 24 34 (.agg #[(.int .i64 0), (.int .i64 0), (.int .i64 0), (.int .i64 0)]) 32 rfl Try.underlying24 info34 rfl (by decide) (by omega) u5 a0 (⟨d4, d5, d6, d7⟩ : S34) [.int .i64 d4, .int .i64 d5, .int .i64 d6, .int .i64 d7] (fun _ => True) (fun _ => False) rfl rfl ?aP (fun _ hk => hk.elim) ?aF ?aO (Below.refl _ _) ?aS ?aL ?_; (case aP => exact k34_mkM _ _ _ (⟨d4, d5, d6, d7⟩ : S34)); (case aF => exact (fun _ _ => trivial)); (case aO => exact zq25_); (case aS => exact (keep_size (w := w) (g := g) (row := none) zq72_)); (case aL => have := aS0.out; omega); intro S1 p5 ho hb hg aB; rw [← U1.out] at ho; have n_ := A4_ (IsS110.grown zq7f_ hg (IsS110.own_ne o0.out j0.out (by decide))) (below_weaken zq69_ HL.out hb) (KeepBut.trans zq72_ (KeepBut.of_grown hg g) (Kd.R_base2 j0.out)) (ho); clear o0 HB HK j0; obtain ⟨o0, HB, HK, f1⟩ := n_; clear ho hb hg aB))
     go_roundg k1
     case measure => have := aa0.out; omega
     case rel => exact ⟨(F1), (wrap64 (a1 - 1)), (d8), zq64_, H', ⟨by have := aa0.out; omega⟩, ⟨zq14_⟩, ⟨zq7f_⟩, ⟨zq72_⟩, ⟨zq69_⟩⟩
    ·change decide (0 < a1) = false at c18b0; simp only [Option.some.injEq, Prod.mk.injEq] at H; obtain ⟨rfl, rfl⟩ := H
     go_wp2
     go_ret
     exact ⟨_, zq63_, zq25_, zq7f_, zq69_, zq72_⟩

/-! ### spec_l2Bent: function 59 -/
def spec_l2Bent.l0 : Nat → List (S34) → Int → List Int → Int → Option ((List (S34)) × Int)
 | 0, _, _, _, _ => none
 | k + 1, x3, x4, x1000, x1001 => if (x3.length : Int) < 11 then (if 0 ≤ x4 then (if x4 < (x3.length : Int) then (if x3.length < 4398046511104 then (spec_l2Bent.l0 k (x3 ++ [(⟨(rd_T34 x3 x4).f0, (rd_T34 x3 x4).f1, (rd_T34 x3 x4).f2, (rd_T34 x3 x4).f3⟩ : S34)]) x4 x1000 x1001) else (none)) else (none)) else (none)) else (some (x3, x1001))
def spec_l2Bent.f (k : Nat) (s0_0 : List Int) (s0_1 : Int) : Option ((List (S34)) × Int) := (spec_l2Prog.f k s0_0 s0_1).bind fun bt193 => (if (bt193.1.length : Int) = 0 then (some (bt193.1, bt193.2)) else ((spec_l15Rd_pick.f k s0_0 bt193.2 (bt193.1.length : Int)).bind fun bt197 => ((spec_l15Rd_pick.f k s0_0 bt197.2 40).bind fun bt199 => (if bt199.1 = 0 then ((spec_l15Rd_num.f k s0_0 bt199.2 (([0, 8] : List Int))).bind fun bt204 => (if 0 ≤ bt197.1 then (if bt197.1 < (bt193.1.length : Int) then (some ((bt193.1.set (bt197.1 : Int).toNat (⟨bt204.1, (rd_T34 bt193.1 bt197.1).f1, (rd_T34 bt193.1 bt197.1).f2, (rd_T34 bt193.1 bt197.1).f3⟩ : S34)), bt204.2)) else (none)) else (none))) else (if bt199.1 = 1 then ((spec_l15Rd_num.f k s0_0 bt199.2 (([(-1), 4] : List Int))).bind fun bt210 => (if 0 ≤ bt197.1 then (if bt197.1 < (bt193.1.length : Int) then (some ((bt193.1.set (bt197.1 : Int).toNat (⟨(rd_T34 bt193.1 bt197.1).f0, bt210.1, (rd_T34 bt193.1 bt197.1).f2, (rd_T34 bt193.1 bt197.1).f3⟩ : S34)), bt210.2)) else (none)) else (none))) else (if bt199.1 = 2 then ((spec_l15Rd_num.f k s0_0 bt199.2 (([(-1), 11, 2000000] : List Int))).bind fun bt216 => (if 0 ≤ bt197.1 then (if bt197.1 < (bt193.1.length : Int) then (some ((bt193.1.set (bt197.1 : Int).toNat (⟨(rd_T34 bt193.1 bt197.1).f0, (rd_T34 bt193.1 bt197.1).f1, (rd_T34 bt193.1 bt197.1).f2, bt216.1⟩ : S34)), bt216.2)) else (none)) else (none))) else (if bt199.1 = 3 then (spec_l2Bent.l0 k bt193.1 bt197.1 s0_0 bt199.2) else (some (bt193.1, bt199.2)))))))))
theorem spec_l2Bent.mono_l : ∀ k, (∀ y0 y1 y2 y3, LeO (spec_l2Bent.l0 k y0 y1 y2 y3) (spec_l2Bent.l0 (k + 1) y0 y1 y2 y3))
 | 0 => fun _ _ _ _ r h => by simp [spec_l2Bent.l0] at h
 | k + 1 => by
  have L0 := spec_l2Bent.mono_l k
  ·intro y0 y1 y2 y3
   unfold spec_l2Bent.l0
   repeat' first
   | (with_reducible exact L0 _ _ _ _)
   | (with_reducible exact spec_l15Rd_num.mono _ _ _ _)
   | (with_reducible exact spec_l15Rd_pick.mono _ _ _ _)
   | (with_reducible exact spec_l2Prog.mono _ _ _)
   | (with_reducible exact LeO.refl _)
   | (with_reducible exact LeO.none _)
   | (with_reducible refine LeO.ite ?_ ?_)
   | (with_reducible refine LeO.bind ?_ (fun _ => ?_))
   | exact L0 _ _ _ _
   | exact spec_l15Rd_num.mono _ _ _ _
   | exact spec_l15Rd_pick.mono _ _ _ _
   | exact spec_l2Prog.mono _ _ _
   | exact LeO.none _
   | refine LeO.ite ?_ ?_
   | refine LeO.bind ?_ (fun _ => ?_)
theorem spec_l2Bent.mono : ∀ a0 a1 k, LeO (spec_l2Bent.f k a0 a1) (spec_l2Bent.f (k + 1) a0 a1) := by
 intro a0 a1 k
 have L0 := spec_l2Bent.mono_l k
 unfold spec_l2Bent.f
 repeat' first
   | (with_reducible exact L0 _ _ _ _)
   | (with_reducible exact spec_l15Rd_num.mono _ _ _ _)
   | (with_reducible exact spec_l15Rd_pick.mono _ _ _ _)
   | (with_reducible exact spec_l2Prog.mono _ _ _)
   | (with_reducible exact LeO.refl _)
   | (with_reducible exact LeO.none _)
   | (with_reducible refine LeO.ite ?_ ?_)
   | (with_reducible refine LeO.bind ?_ (fun _ => ?_))
   | exact L0 _ _ _ _
   | exact spec_l15Rd_num.mono _ _ _ _
   | exact spec_l15Rd_pick.mono _ _ _ _
   | exact spec_l2Prog.mono _ _ _
   | exact LeO.none _
   | refine LeO.ite ?_ ?_
   | refine LeO.bind ?_ (fun _ => ?_)
set_option maxHeartbeats 8000000 in
set_option maxRecDepth 100000 in
theorem spec_l2Bent.calls (k : Nat) (g : Nat) (C0 : List Int) (C1 : Int) (r1 : List (S34)) (r2 : Int) (w0 w : World) (hI : IsS110 w0 w g C0 C1) (hB : Below w0.heap.size w0 w) (h : spec_l2Bent.f k C0 C1 = some (r1, r2)) :
  Calls Try.prog 59 #[.pointer (some ⟨g, 0, none⟩)] w fun e w' => ∃ v0_ : Value, e = .returned (v0_) ∧ Kd.R k34 34 w' w.heap.size (fun _ => True) v0_ r1 ∧ IsS110 w0 w' g C0 r2 ∧ Below w0.heap.size w0 w' ∧ KeepBut w w' g none := by
 have ay0 := Try.underlying34; have o0 := Aside0.mk hI; have HK := Aside0.mk (KeepBut.refl w g none); have HL := Aside0.mk hB.size; clear hI; have aP0 := Aside0.mk hB.size; have HB := Aside0.mk hB; clear hB; have H : ((spec_l2Prog.f k C0 C1).bind fun B0 => (if (B0.1.length : Int) = 0 then (some (B0.1, B0.2)) else ((spec_l15Rd_pick.f k C0 B0.2 (B0.1.length : Int)).bind fun B1 => ((spec_l15Rd_pick.f k C0 B1.2 40).bind fun B2 => (if B2.1 = 0 then ((spec_l15Rd_num.f k C0 B2.2 (([0, 8] : List Int))).bind fun B3 => (if 0 ≤ B1.1 then (if B1.1 < (B0.1.length : Int) then (some ((B0.1.set (B1.1 : Int).toNat (⟨B3.1, (rd_T34 B0.1 B1.1).f1, (rd_T34 B0.1 B1.1).f2, (rd_T34 B0.1 B1.1).f3⟩ : S34)), B3.2)) else (none)) else (none))) else (if B2.1 = 1 then ((spec_l15Rd_num.f k C0 B2.2 (([(-1), 4] : List Int))).bind fun B4 => (if 0 ≤ B1.1 then (if B1.1 < (B0.1.length : Int) then (some ((B0.1.set (B1.1 : Int).toNat (⟨(rd_T34 B0.1 B1.1).f0, B4.1, (rd_T34 B0.1 B1.1).f2, (rd_T34 B0.1 B1.1).f3⟩ : S34)), B4.2)) else (none)) else (none))) else (if B2.1 = 2 then ((spec_l15Rd_num.f k C0 B2.2 (([(-1), 11, 2000000] : List Int))).bind fun B5 => (if 0 ≤ B1.1 then (if B1.1 < (B0.1.length : Int) then (some ((B0.1.set (B1.1 : Int).toNat (⟨(rd_T34 B0.1 B1.1).f0, (rd_T34 B0.1 B1.1).f1, (rd_T34 B0.1 B1.1).f2, B5.1⟩ : S34)), B5.2)) else (none)) else (none))) else (if B2.1 = 3 then (spec_l2Bent.l0 k B0.1 B1.1 C0 B2.2) else (some (B0.1, B2.2)))))))))) = some (r1, r2) := h; clear h; replace H := Option.bind_eq_some_iff.mp H; obtain ⟨⟨d0, d1⟩, E0, H⟩ := H; (try dsimp only at H); have A2 := Aside0.mk E0; clear E0; by_cases c3 : (d0.length : Int) = 0
 ·rw [if_pos c3] at H; have q0 : ((d0.length : Int) == 0) = true := beq_iff_eq.mpr c3; have q3 : ((d0.length : Int) != 0) = false := bne_eq_false_iff_eq.mpr c3; clear c3; simp only [Option.some.injEq, Prod.mk.injEq] at H; obtain ⟨rfl, rfl⟩ := H
  go_enter Try.func59, Try.ntmps59
  go_wp2_with (first | ((with_reducible refine gate_callee (f := 92) rfl ?_); refine gl_ 6 Try.func92 #[.pointer (some ⟨g, 0, none⟩)] ?_; (with_reducible refine (spec_l2Prog.calls k g C0 C1 d0 d1 w0 _ ?_ ?_ A2.out).mono ?_); exact zq7f_; exact zq69_; rintro e w4 ⟨S0, rfl, y0, hi, hb, hk⟩; refine ⟨_, rfl, ?_⟩; have n_ := A4_ (Kd.R_lower y0 (keep_size (w := w) (g := g) (row := none) zq72_)) (KeepBut.trans zq72_ hk (.inl rfl)) (hb) (hi); clear HK HB o0; obtain ⟨f4, HK, HB, o0⟩ := n_; (try clear hb); (try clear hk); (try clear hi); (try clear y0); obtain ⟨i0, g0, z0⟩ := Kd.R_slice f4.out; subst z0))
  go_ret
  exact ⟨_, zq63_, zq1f_, zq7f_, zq69_, zq72_⟩
 ·rw [if_neg c3] at H; have q0 : ((d0.length : Int) == 0) = false := beq_eq_false_iff_ne.mpr c3; have q3 : ((d0.length : Int) != 0) = true := bne_iff_ne.mpr c3; have q5 : ¬ (d0 = []) := fun h_ => c3 (by rw [h_]; rfl)
  replace H := Option.bind_eq_some_iff.mp H; obtain ⟨⟨d2, d3⟩, E1, H⟩ := H; (try dsimp only at H); have A6 := Aside0.mk E1; clear E1; replace H := Option.bind_eq_some_iff.mp H; obtain ⟨⟨d4, d5⟩, E2, H⟩ := H; (try dsimp only at H); have A7 := Aside0.mk E2; clear E2; by_cases c8 : d4 = 0
  ·rw [if_pos c8] at H; have q6 : (d4 == 0) = true := beq_iff_eq.mpr c8; have q7 : (d4 != 0) = false := bne_eq_false_iff_eq.mpr c8; clear c8; obtain ⟨F0, J0⟩ : ∃ y_ : List Int, y_ = (([0, 8] : List Int)) := ⟨_, rfl⟩; replace H : ((spec_l15Rd_num.f k C0 d5 F0).bind fun B3 => (if 0 ≤ d2 then (if d2 < (d0.length : Int) then (some ((d0.set (d2 : Int).toNat (⟨B3.1, (rd_T34 d0 d2).f1, (rd_T34 d0 d2).f2, (rd_T34 d0 d2).f3⟩ : S34)), B3.2)) else (none)) else (none))) = some (r1, r2) := by first | (rw [J0]; with_reducible exact H) | (have O0 := (Option.bind_some _ _).symm.trans H; rw [J0]; with_reducible exact O0) | (have O0 := (Option.bind_some _ _).symm.trans H; with_reducible exact O0) | with_reducible exact H | (rw [J0]; exact H) | exact H
   have U0 := Aside0.mk J0; clear J0; replace H := Option.bind_eq_some_iff.mp H; obtain ⟨⟨d6, d7⟩, E3, H⟩ := H; (try dsimp only at H); have A9 := Aside0.mk E3; clear E3; replace H := ifd2_ H; obtain ⟨q8, q9, H⟩ := H; obtain ⟨F1, J1⟩ : ∃ y_ : List (S34), y_ = (d0.set (d2 : Int).toNat (⟨d6, (rd_T34 d0 d2).f1, (rd_T34 d0 d2).f2, (rd_T34 d0 d2).f3⟩ : S34)) := ⟨_, rfl⟩; replace H : (some (F1, d7)) = some (r1, r2) := by first | (rw [J1]; with_reducible exact H) | (have O0 := (Option.bind_some _ _).symm.trans H; rw [J1]; with_reducible exact O0) | (have O0 := (Option.bind_some _ _).symm.trans H; with_reducible exact O0) | with_reducible exact H | (rw [J1]; exact H) | exact H
   have U1 := Aside0.mk J1; clear J1; simp only [Option.some.injEq, Prod.mk.injEq] at H; obtain ⟨rfl, rfl⟩ := H
   go_enter Try.func59, Try.ntmps59
   go_wp2_with (first | ((with_reducible refine gate_callee (f := 92) rfl ?_); refine gl_ 6 Try.func92 #[.pointer (some ⟨g, 0, none⟩)] ?_; (with_reducible refine (spec_l2Prog.calls k g C0 C1 d0 d1 w0 _ ?_ ?_ A2.out).mono ?_); exact zq7f_; exact zq69_; rintro e p0 ⟨S0, rfl, y0, hi, hb, hk⟩; refine ⟨_, rfl, ?_⟩; have n_ := A4_ (Kd.R_lower y0 (keep_size (w := w) (g := g) (row := none) zq72_)) (KeepBut.trans zq72_ hk (.inl rfl)) (hb) (hi); clear HK HB o0; obtain ⟨f4, HK, HB, o0⟩ := n_; (try clear hb); (try clear hk); (try clear hi); (try clear y0); obtain ⟨i0, g0, z0⟩ := Kd.R_slice f4.out; subst z0) | ((with_reducible refine gate_callee (f := 91) rfl ?_); refine gl_ 14 Try.func91 #[.pointer (some ⟨g, 0, none⟩), .int .i64 (d0.length : Int)] ?_; (with_reducible refine (spec_l15Rd_pick.calls k g C0 d1 (d0.length : Int) d2 d3 w0 _ ?_ ?_ A6.out).mono ?_); exact zq7f_; exact zq69_; rintro e p3 ⟨rfl, hi, hb, hk⟩; refine ⟨_, rfl, ?_⟩; have n_ := A4_ (Kd.R_mono (Kd.R_keep (IsS110.apart (show IsS110 w0 _ g C0 d1 from by repeat (first | (with_reducible first | exact o0.out | apply IsS110.alloc | apply IsS110.drewN | apply IsS110.drew | apply IsS110.set_1) | exact o0.out)) zq1f_ (by decide)) hk (fun _ h => h.2)) (fun _ h => h.1)) (KeepBut.trans zq72_ hk (.inl rfl)) (hb) (hi); clear f4 HK HB o0; obtain ⟨f4, HK, HB, o0⟩ := n_; (try clear hb); (try clear hk); (try clear hi)) | ((with_reducible refine gate_callee (f := 91) rfl ?_); refine gl_ 16 Try.func91 #[.pointer (some ⟨g, 0, none⟩), .int .i64 40] ?_; (with_reducible refine (spec_l15Rd_pick.calls k g C0 d3 40 d4 d5 w0 _ ?_ ?_ A7.out).mono ?_); exact zq7f_; exact zq69_; rintro e p5 ⟨rfl, hi, hb, hk⟩; refine ⟨_, rfl, ?_⟩; have n_ := A4_ (Kd.R_mono (Kd.R_keep (IsS110.apart (show IsS110 w0 _ g C0 d3 from by repeat (first | (with_reducible first | exact o0.out | apply IsS110.alloc | apply IsS110.drewN | apply IsS110.drew | apply IsS110.set_1) | exact o0.out)) zq1f_ (by decide)) hk (fun _ h => h.2)) (fun _ h => h.1)) (KeepBut.trans zq72_ hk (.inl rfl)) (hb) (hi); clear f4 HK HB o0; obtain ⟨f4, HK, HB, o0⟩ := n_; (try clear hb); (try clear hk); (try clear hi)) | ((with_reducible refine gate_dst (N := 22) rfl ?_); refine Kd.R_lit (Kd.int .i64) _ 3 ?hg (N := 22) ?hd (xs := ([0, 8] : List Int)) (inner := [.int .i64 0, .int .i64 8]) (ok := fun _ => True) (okp := fun _ => True) ?hr ?hp (fun _ hk => hk) trivial (Below.refl _ _) (Nat.le_refl _) (by simp) ?_; (case hd => rfl); (case hg => rfl); (case hr => first | (go_simp; done) | (go_simp; rfl)); (case hp => exact (Reps.one (show Kd.M (Kd.int .i64) _ _ _ 0 [.int .i64 0] from rfl) (Reps.one (show Kd.M (Kd.int .i64) _ _ _ 8 [.int .i64 8] from rfl) (Reps.none _ _)))); intro S1 p6 y1 hb am an; clear am an; (first | rw [← U0.out] at y1 | (simp only [Int.reduceToNat] at y1; rw [← U0.out] at y1)); have n_ := A5_ (Kd.R_below zq1f_ hb) (Kd.R_lower y1 (keep_size (w := w) (g := g) (row := none) zq72_)) (IsS110.below zq7f_ hb) (KeepBut.trans zq72_ (KeepBut.of_below hb g none) (.inl rfl)) (below_step zq69_ hb); clear f4 o0 HK HB; obtain ⟨f4, f5, o0, HK, HB⟩ := n_; clear hb y1; obtain ⟨i1, g1, z1⟩ := Kd.R_slice f5.out; subst z1) | ((with_reducible refine gate_callee (f := 98) rfl ?_); refine gl_ 23 Try.func98 #[.pointer (some ⟨g, 0, none⟩), .slice i1 F0.length g1] ?_; (with_reducible refine (spec_l15Rd_num.calls k g C0 d5 _ _ F0 d6 d7 w0 _ ?_ ?_ ?_ ?_ ?_ A9.out).mono ?_); exact zq7f_; exact zq69_; exact zq88_; exact zq50_; exact zq56_; rintro e p7 ⟨rfl, hi, hb, hk⟩; refine ⟨_, rfl, ?_⟩; have n_ := A5_ (Kd.R_mono (Kd.R_keep (IsS110.apart (show IsS110 w0 _ g C0 d5 from by repeat (first | (with_reducible first | exact o0.out | apply IsS110.alloc | apply IsS110.drewN | apply IsS110.drew | apply IsS110.set_1) | exact o0.out)) zq1f_ (by decide)) hk (fun _ h => h.2)) (fun _ h => h.1)) (Kd.R_mono (Kd.R_keep (IsS110.apart (show IsS110 w0 _ g C0 d5 from by repeat (first | (with_reducible first | exact o0.out | apply IsS110.alloc | apply IsS110.drewN | apply IsS110.drew | apply IsS110.set_1) | exact o0.out)) zq20_ (by decide)) hk (fun _ h => h.2)) (fun _ h => h.1)) (KeepBut.trans zq72_ hk (.inl rfl)) (hb) (hi); clear f4 f5 HK HB o0; obtain ⟨f4, f5, HK, HB, o0⟩ := n_; (try clear hb); have v0 : 0 ≤ (d2 : Int) := of_decide_eq_true zq5f_; have u0 : (d2 : Int) < ((d0.length : Int) : Int) := of_decide_eq_true zq5f_; obtain ⟨R0, g2, z2, c0, aH0, bg0, au0⟩ := Kd.R_form f4.out (by omega); (first | cases z2 | (injection z2 with ah aI aJ; (first | subst ah | (injection ah with ah; subst ah)); subst aJ; clear aI)); have aF0 := Aside0.mk c0; have aT0 := Aside0.mk au0; clear c0 aH0 au0; obtain ⟨ba0, ap0, aj0, ad0, ag0⟩ := Kd.R_elem f4.out z34 (d2 : Int) v0 u0; obtain rfl := k34_openM aj0; have s0 : p7.cell? ⟨R0, (d2 : Int).toNat * 4, none⟩ = some (.int .i64 ((rd_T34 d0 d2).f0)) := ad0 0 _ rfl; have s1 : p7.cell? ⟨R0, (d2 : Int).toNat * 4 + 1, none⟩ = some (.int .i64 ((rd_T34 d0 d2).f1)) := ad0 1 _ rfl; have s2 : p7.cell? ⟨R0, (d2 : Int).toNat * 4 + 2, none⟩ = some (.int .i64 ((rd_T34 d0 d2).f2)) := ad0 2 _ rfl; have s3 : p7.cell? ⟨R0, (d2 : Int).toNat * 4 + 3, none⟩ = some (.int .i64 ((rd_T34 d0 d2).f3)) := ad0 3 _ rfl; have al0 : p7.frozen? ⟨R0, (d2 : Int).toNat * 4, none⟩ = false := ag0 0; have al1 : p7.frozen? ⟨R0, (d2 : Int).toNat * 4 + 1, none⟩ = false := ag0 1; have al2 : p7.frozen? ⟨R0, (d2 : Int).toNat * 4 + 2, none⟩ = false := ag0 2; have al3 : p7.frozen? ⟨R0, (d2 : Int).toNat * 4 + 3, none⟩ = false := ag0 3; clear ap0 ad0 ag0 aj0; replace v0 := eq_true v0; replace u0 := eq_true u0; have aR0 := Aside0.mk (show Kd.R k34 34 p7 w.heap.size (fun _ => True) (.slice (some ⟨R0, 0, none⟩) d0.length g0) d0 from zq1f_); obtain ⟨ba1, ap1, aj1, ad1, ag1⟩ := Kd.R_elem aR0.out z34 (d2 : Int) (of_decide_eq_true zq5f_) zqa0_; obtain rfl := k34_openM aj1; have ak0 := Kd.R_seg aR0.out (d2 : Int) (of_decide_eq_true zq5f_) zqa0_ (seg := [.int .i64 d6]) (j := 0) ap1 ad1 (show 1 ≤ 4 from by decide) (x' := (⟨d6, (rd_T34 d0 d2).f1, (rd_T34 d0 d2).f2, (rd_T34 d0 d2).f3⟩ : S34)) (k34_mkM _ _ _ (⟨d6, (rd_T34 d0 d2).f1, (rd_T34 d0 d2).f2, (rd_T34 d0 d2).f3⟩ : S34) ) (fun _ hk => hk); have s4 := ad1 0 _ rfl; (try simp only [show (k34).sz = 4 from rfl, Nat.mul_one, Nat.add_zero] at s4); have al4 := ag1 0; (try simp only [show (k34).sz = 4 from rfl, Nat.mul_one, Nat.add_zero] at al4); clear ap1 ad1 ag1 aj1) | ((with_reducible refine gate_store (t := 3) (p := 25) rfl ?_); refine store_event (t := 3) (p := 25) (v := ?vo_w22) (w1 := (p7.setCell ⟨R0, (d2 : Int).toNat * 4, none⟩ (.int .i64 d6))) ?hg ?ho ?hn ?hr ?_; (case ho => rfl); (case hg => rfl); (case hn => rfl); (case hr => first | (go_simp; done) | (go_simp; rfl)); intro p8 hw; have hg : p7.grownBy p8 (some R0) := (by rw [hw]; exact ak0.2); have aD : Kd.R k34 34 p8 w.heap.size (fun _ => True) (.slice (some ⟨R0, 0, none⟩) d0.length g0) F1 := (by rw [hw, U1.out]; exact ak0.1); clear ak0; have n_ := A5_ (IsS110.grown zq7f_ hg (IsS110.own_ne o0.out f4.out (by decide))) (aD) (Kd.R_over' (v := (.slice (some ⟨R0, 0, none⟩) d0.length g0)) zq20_ (Kd.R_typed f4.out) (by decide) hg) ((by rw [hw]; exact below_set (HB.out) (Nat.le_trans HL.out aF0.out) : Below w0.heap.size w0 p8)) (KeepBut.trans zq72_ (KeepBut.of_grown hg g) (Kd.R_base2 f4.out)); clear o0 f4 f5 HB HK; obtain ⟨o0, f4, f5, HB, HK⟩ := n_; clear hg hw aD))
   go_ret
   exact ⟨_, zq63_, zq1f_, zq7f_, zq69_, zq72_⟩
  ·rw [if_neg c8] at H; have q6 : (d4 == 0) = false := beq_eq_false_iff_ne.mpr c8; have q7 : (d4 != 0) = true := bne_iff_ne.mpr c8; by_cases r0 : d4 = 1
   ·rw [if_pos r0] at H; have q8 : (d4 == 1) = true := beq_iff_eq.mpr r0; have q9 : (d4 != 1) = false := bne_eq_false_iff_eq.mpr r0; clear r0; obtain ⟨F0, J0⟩ : ∃ y_ : List Int, y_ = (([(-1), 4] : List Int)) := ⟨_, rfl⟩; replace H : ((spec_l15Rd_num.f k C0 d5 F0).bind fun B4 => (if 0 ≤ d2 then (if d2 < (d0.length : Int) then (some ((d0.set (d2 : Int).toNat (⟨(rd_T34 d0 d2).f0, B4.1, (rd_T34 d0 d2).f2, (rd_T34 d0 d2).f3⟩ : S34)), B4.2)) else (none)) else (none))) = some (r1, r2) := by first | (rw [J0]; with_reducible exact H) | (have O0 := (Option.bind_some _ _).symm.trans H; rw [J0]; with_reducible exact O0) | (have O0 := (Option.bind_some _ _).symm.trans H; with_reducible exact O0) | with_reducible exact H | (rw [J0]; exact H) | exact H
    have U0 := Aside0.mk J0; clear J0; replace H := Option.bind_eq_some_iff.mp H; obtain ⟨⟨d6, d7⟩, E3, H⟩ := H; (try dsimp only at H); have E4 := Aside0.mk E3; clear E3; replace H := ifd2_ H; obtain ⟨q10, q11, H⟩ := H; obtain ⟨F1, J1⟩ : ∃ y_ : List (S34), y_ = (d0.set (d2 : Int).toNat (⟨(rd_T34 d0 d2).f0, d6, (rd_T34 d0 d2).f2, (rd_T34 d0 d2).f3⟩ : S34)) := ⟨_, rfl⟩; replace H : (some (F1, d7)) = some (r1, r2) := by first | (rw [J1]; with_reducible exact H) | (have O0 := (Option.bind_some _ _).symm.trans H; rw [J1]; with_reducible exact O0) | (have O0 := (Option.bind_some _ _).symm.trans H; with_reducible exact O0) | with_reducible exact H | (rw [J1]; exact H) | exact H
    have U1 := Aside0.mk J1; clear J1; simp only [Option.some.injEq, Prod.mk.injEq] at H; obtain ⟨rfl, rfl⟩ := H
    go_enter Try.func59, Try.ntmps59
    go_wp2_with (first | ((with_reducible refine gate_callee (f := 92) rfl ?_); refine gl_ 6 Try.func92 #[.pointer (some ⟨g, 0, none⟩)] ?_; (with_reducible refine (spec_l2Prog.calls k g C0 C1 d0 d1 w0 _ ?_ ?_ A2.out).mono ?_); exact zq7f_; exact zq69_; rintro e p0 ⟨S0, rfl, y0, hi, hb, hk⟩; refine ⟨_, rfl, ?_⟩; have n_ := A4_ (Kd.R_lower y0 (keep_size (w := w) (g := g) (row := none) zq72_)) (KeepBut.trans zq72_ hk (.inl rfl)) (hb) (hi); clear HK HB o0; obtain ⟨f4, HK, HB, o0⟩ := n_; (try clear hb); (try clear hk); (try clear hi); (try clear y0); obtain ⟨i0, g0, z0⟩ := Kd.R_slice f4.out; subst z0) | ((with_reducible refine gate_callee (f := 91) rfl ?_); refine gl_ 14 Try.func91 #[.pointer (some ⟨g, 0, none⟩), .int .i64 (d0.length : Int)] ?_; (with_reducible refine (spec_l15Rd_pick.calls k g C0 d1 (d0.length : Int) d2 d3 w0 _ ?_ ?_ A6.out).mono ?_); exact zq7f_; exact zq69_; rintro e p3 ⟨rfl, hi, hb, hk⟩; refine ⟨_, rfl, ?_⟩; have n_ := A4_ (Kd.R_mono (Kd.R_keep (IsS110.apart (show IsS110 w0 _ g C0 d1 from by repeat (first | (with_reducible first | exact o0.out | apply IsS110.alloc | apply IsS110.drewN | apply IsS110.drew | apply IsS110.set_1) | exact o0.out)) zq1f_ (by decide)) hk (fun _ h => h.2)) (fun _ h => h.1)) (KeepBut.trans zq72_ hk (.inl rfl)) (hb) (hi); clear f4 HK HB o0; obtain ⟨f4, HK, HB, o0⟩ := n_; (try clear hb); (try clear hk); (try clear hi)) | ((with_reducible refine gate_callee (f := 91) rfl ?_); refine gl_ 16 Try.func91 #[.pointer (some ⟨g, 0, none⟩), .int .i64 40] ?_; (with_reducible refine (spec_l15Rd_pick.calls k g C0 d3 40 d4 d5 w0 _ ?_ ?_ A7.out).mono ?_); exact zq7f_; exact zq69_; rintro e p5 ⟨rfl, hi, hb, hk⟩; refine ⟨_, rfl, ?_⟩; have n_ := A4_ (Kd.R_mono (Kd.R_keep (IsS110.apart (show IsS110 w0 _ g C0 d3 from by repeat (first | (with_reducible first | exact o0.out | apply IsS110.alloc | apply IsS110.drewN | apply IsS110.drew | apply IsS110.set_1) | exact o0.out)) zq1f_ (by decide)) hk (fun _ h => h.2)) (fun _ h => h.1)) (KeepBut.trans zq72_ hk (.inl rfl)) (hb) (hi); clear f4 HK HB o0; obtain ⟨f4, HK, HB, o0⟩ := n_; (try clear hb); (try clear hk); (try clear hi)) | ((with_reducible refine gate_dst (N := 31) rfl ?_); refine Kd.R_lit (Kd.int .i64) _ 3 ?hg (N := 31) ?hd (xs := ([(-1), 4] : List Int)) (inner := [.int .i64 (-1), .int .i64 4]) (ok := fun _ => True) (okp := fun _ => True) ?hr ?hp (fun _ hk => hk) trivial (Below.refl _ _) (Nat.le_refl _) (by simp) ?_; (case hd => rfl); (case hg => rfl); (case hr => first | (go_simp; done) | (go_simp; rfl)); (case hp => exact (Reps.one (show Kd.M (Kd.int .i64) _ _ _ (-1) [.int .i64 (-1)] from rfl) (Reps.one (show Kd.M (Kd.int .i64) _ _ _ 4 [.int .i64 4] from rfl) (Reps.none _ _)))); intro S1 p6 y1 hb am an; clear am an; (first | rw [← U0.out] at y1 | (simp only [Int.reduceToNat] at y1; rw [← U0.out] at y1)); have n_ := A5_ (Kd.R_below zq1f_ hb) (Kd.R_lower y1 (keep_size (w := w) (g := g) (row := none) zq72_)) (IsS110.below zq7f_ hb) (KeepBut.trans zq72_ (KeepBut.of_below hb g none) (.inl rfl)) (below_step zq69_ hb); clear f4 o0 HK HB; obtain ⟨f4, f5, o0, HK, HB⟩ := n_; clear hb y1; obtain ⟨i1, g1, z1⟩ := Kd.R_slice f5.out; subst z1) | ((with_reducible refine gate_callee (f := 98) rfl ?_); refine gl_ 32 Try.func98 #[.pointer (some ⟨g, 0, none⟩), .slice i1 F0.length g1] ?_; (with_reducible refine (spec_l15Rd_num.calls k g C0 d5 _ _ F0 d6 d7 w0 _ ?_ ?_ ?_ ?_ ?_ E4.out).mono ?_); exact zq7f_; exact zq69_; exact zq88_; exact zq50_; exact zq56_; rintro e p7 ⟨rfl, hi, hb, hk⟩; refine ⟨_, rfl, ?_⟩; have n_ := A5_ (Kd.R_mono (Kd.R_keep (IsS110.apart (show IsS110 w0 _ g C0 d5 from by repeat (first | (with_reducible first | exact o0.out | apply IsS110.alloc | apply IsS110.drewN | apply IsS110.drew | apply IsS110.set_1) | exact o0.out)) zq1f_ (by decide)) hk (fun _ h => h.2)) (fun _ h => h.1)) (Kd.R_mono (Kd.R_keep (IsS110.apart (show IsS110 w0 _ g C0 d5 from by repeat (first | (with_reducible first | exact o0.out | apply IsS110.alloc | apply IsS110.drewN | apply IsS110.drew | apply IsS110.set_1) | exact o0.out)) zq20_ (by decide)) hk (fun _ h => h.2)) (fun _ h => h.1)) (KeepBut.trans zq72_ hk (.inl rfl)) (hb) (hi); clear f4 f5 HK HB o0; obtain ⟨f4, f5, HK, HB, o0⟩ := n_; (try clear hb); have v0 : 0 ≤ (d2 : Int) := of_decide_eq_true zq5f_; have u0 : (d2 : Int) < ((d0.length : Int) : Int) := of_decide_eq_true zq5f_; obtain ⟨R0, g2, z2, c0, aH0, bg0, au0⟩ := Kd.R_form f4.out (by omega); (first | cases z2 | (injection z2 with ah aI aJ; (first | subst ah | (injection ah with ah; subst ah)); subst aJ; clear aI)); have aF0 := Aside0.mk c0; have aT0 := Aside0.mk au0; clear c0 aH0 au0; obtain ⟨ba0, ap0, aj0, ad0, ag0⟩ := Kd.R_elem f4.out z34 (d2 : Int) v0 u0; obtain rfl := k34_openM aj0; have s0 : p7.cell? ⟨R0, (d2 : Int).toNat * 4, none⟩ = some (.int .i64 ((rd_T34 d0 d2).f0)) := ad0 0 _ rfl; have s1 : p7.cell? ⟨R0, (d2 : Int).toNat * 4 + 1, none⟩ = some (.int .i64 ((rd_T34 d0 d2).f1)) := ad0 1 _ rfl; have s2 : p7.cell? ⟨R0, (d2 : Int).toNat * 4 + 2, none⟩ = some (.int .i64 ((rd_T34 d0 d2).f2)) := ad0 2 _ rfl; have s3 : p7.cell? ⟨R0, (d2 : Int).toNat * 4 + 3, none⟩ = some (.int .i64 ((rd_T34 d0 d2).f3)) := ad0 3 _ rfl; have al0 : p7.frozen? ⟨R0, (d2 : Int).toNat * 4, none⟩ = false := ag0 0; have al1 : p7.frozen? ⟨R0, (d2 : Int).toNat * 4 + 1, none⟩ = false := ag0 1; have al2 : p7.frozen? ⟨R0, (d2 : Int).toNat * 4 + 2, none⟩ = false := ag0 2; have al3 : p7.frozen? ⟨R0, (d2 : Int).toNat * 4 + 3, none⟩ = false := ag0 3; clear ap0 ad0 ag0 aj0; replace v0 := eq_true v0; replace u0 := eq_true u0; have aR0 := Aside0.mk (show Kd.R k34 34 p7 w.heap.size (fun _ => True) (.slice (some ⟨R0, 0, none⟩) d0.length g0) d0 from zq1f_); obtain ⟨ba1, ap1, aj1, ad1, ag1⟩ := Kd.R_elem aR0.out z34 (d2 : Int) (of_decide_eq_true zq5f_) zqa0_; obtain rfl := k34_openM aj1; have ak0 := Kd.R_seg aR0.out (d2 : Int) (of_decide_eq_true zq5f_) zqa0_ (seg := [.int .i64 d6]) (j := 1) ap1 ad1 (show 2 ≤ 4 from by decide) (x' := (⟨(rd_T34 d0 d2).f0, d6, (rd_T34 d0 d2).f2, (rd_T34 d0 d2).f3⟩ : S34)) (k34_mkM _ _ _ (⟨(rd_T34 d0 d2).f0, d6, (rd_T34 d0 d2).f2, (rd_T34 d0 d2).f3⟩ : S34) ) (fun _ hk => hk); have s4 := ad1 1 _ rfl; (try simp only [show (k34).sz = 4 from rfl, Nat.mul_one, Nat.add_zero] at s4); have al4 := ag1 1; (try simp only [show (k34).sz = 4 from rfl, Nat.mul_one, Nat.add_zero] at al4); clear ap1 ad1 ag1 aj1) | ((with_reducible refine gate_store (t := 3) (p := 34) rfl ?_); refine store_event (t := 3) (p := 34) (v := ?vo_w37) (w1 := (p7.setCell ⟨R0, (d2 : Int).toNat * 4 + 1, none⟩ (.int .i64 d6))) ?hg ?ho ?hn ?hr ?_; (case ho => rfl); (case hg => rfl); (case hn => rfl); (case hr => first | (go_simp; done) | (go_simp; rfl)); intro p8 hw; have hg : p7.grownBy p8 (some R0) := (by rw [hw]; exact ak0.2); have aD : Kd.R k34 34 p8 w.heap.size (fun _ => True) (.slice (some ⟨R0, 0, none⟩) d0.length g0) F1 := (by rw [hw, U1.out]; exact ak0.1); clear ak0; have n_ := A5_ (IsS110.grown zq7f_ hg (IsS110.own_ne o0.out f4.out (by decide))) (aD) (Kd.R_over' (v := (.slice (some ⟨R0, 0, none⟩) d0.length g0)) zq20_ (Kd.R_typed f4.out) (by decide) hg) ((by rw [hw]; exact below_set (HB.out) (Nat.le_trans HL.out aF0.out) : Below w0.heap.size w0 p8)) (KeepBut.trans zq72_ (KeepBut.of_grown hg g) (Kd.R_base2 f4.out)); clear o0 f4 f5 HB HK; obtain ⟨o0, f4, f5, HB, HK⟩ := n_; clear hg hw aD))
    go_ret
    exact ⟨_, zq63_, zq1f_, zq7f_, zq69_, zq72_⟩
   ·rw [if_neg r0] at H; have q8 : (d4 == 1) = false := beq_eq_false_iff_ne.mpr r0; have q9 : (d4 != 1) = true := bne_iff_ne.mpr r0; by_cases r3 : d4 = 2
    ·rw [if_pos r3] at H; have q10 : (d4 == 2) = true := beq_iff_eq.mpr r3; have q11 : (d4 != 2) = false := bne_eq_false_iff_eq.mpr r3; clear r3; obtain ⟨F0, J0⟩ : ∃ y_ : List Int, y_ = (([(-1), 11, 2000000] : List Int)) := ⟨_, rfl⟩; replace H : ((spec_l15Rd_num.f k C0 d5 F0).bind fun B5 => (if 0 ≤ d2 then (if d2 < (d0.length : Int) then (some ((d0.set (d2 : Int).toNat (⟨(rd_T34 d0 d2).f0, (rd_T34 d0 d2).f1, (rd_T34 d0 d2).f2, B5.1⟩ : S34)), B5.2)) else (none)) else (none))) = some (r1, r2) := by first | (rw [J0]; with_reducible exact H) | (have O0 := (Option.bind_some _ _).symm.trans H; rw [J0]; with_reducible exact O0) | (have O0 := (Option.bind_some _ _).symm.trans H; with_reducible exact O0) | with_reducible exact H | (rw [J0]; exact H) | exact H
     have U0 := Aside0.mk J0; clear J0; replace H := Option.bind_eq_some_iff.mp H; obtain ⟨⟨d6, d7⟩, E3, H⟩ := H; (try dsimp only at H); have E4 := Aside0.mk E3; clear E3; replace H := ifd2_ H; obtain ⟨q12, q13, H⟩ := H; obtain ⟨F1, J1⟩ : ∃ y_ : List (S34), y_ = (d0.set (d2 : Int).toNat (⟨(rd_T34 d0 d2).f0, (rd_T34 d0 d2).f1, (rd_T34 d0 d2).f2, d6⟩ : S34)) := ⟨_, rfl⟩; replace H : (some (F1, d7)) = some (r1, r2) := by first | (rw [J1]; with_reducible exact H) | (have O0 := (Option.bind_some _ _).symm.trans H; rw [J1]; with_reducible exact O0) | (have O0 := (Option.bind_some _ _).symm.trans H; with_reducible exact O0) | with_reducible exact H | (rw [J1]; exact H) | exact H
     have U1 := Aside0.mk J1; clear J1; simp only [Option.some.injEq, Prod.mk.injEq] at H; obtain ⟨rfl, rfl⟩ := H
     go_enter Try.func59, Try.ntmps59
     go_wp2_with (first | ((with_reducible refine gate_callee (f := 92) rfl ?_); refine gl_ 6 Try.func92 #[.pointer (some ⟨g, 0, none⟩)] ?_; (with_reducible refine (spec_l2Prog.calls k g C0 C1 d0 d1 w0 _ ?_ ?_ A2.out).mono ?_); exact zq7f_; exact zq69_; rintro e p0 ⟨S0, rfl, y0, hi, hb, hk⟩; refine ⟨_, rfl, ?_⟩; have n_ := A4_ (Kd.R_lower y0 (keep_size (w := w) (g := g) (row := none) zq72_)) (KeepBut.trans zq72_ hk (.inl rfl)) (hb) (hi); clear HK HB o0; obtain ⟨f4, HK, HB, o0⟩ := n_; (try clear hb); (try clear hk); (try clear hi); (try clear y0); obtain ⟨i0, g0, z0⟩ := Kd.R_slice f4.out; subst z0) | ((with_reducible refine gate_callee (f := 91) rfl ?_); refine gl_ 14 Try.func91 #[.pointer (some ⟨g, 0, none⟩), .int .i64 (d0.length : Int)] ?_; (with_reducible refine (spec_l15Rd_pick.calls k g C0 d1 (d0.length : Int) d2 d3 w0 _ ?_ ?_ A6.out).mono ?_); exact zq7f_; exact zq69_; rintro e p3 ⟨rfl, hi, hb, hk⟩; refine ⟨_, rfl, ?_⟩; have n_ := A4_ (Kd.R_mono (Kd.R_keep (IsS110.apart (show IsS110 w0 _ g C0 d1 from by repeat (first | (with_reducible first | exact o0.out | apply IsS110.alloc | apply IsS110.drewN | apply IsS110.drew | apply IsS110.set_1) | exact o0.out)) zq1f_ (by decide)) hk (fun _ h => h.2)) (fun _ h => h.1)) (KeepBut.trans zq72_ hk (.inl rfl)) (hb) (hi); clear f4 HK HB o0; obtain ⟨f4, HK, HB, o0⟩ := n_; (try clear hb); (try clear hk); (try clear hi)) | ((with_reducible refine gate_callee (f := 91) rfl ?_); refine gl_ 16 Try.func91 #[.pointer (some ⟨g, 0, none⟩), .int .i64 40] ?_; (with_reducible refine (spec_l15Rd_pick.calls k g C0 d3 40 d4 d5 w0 _ ?_ ?_ A7.out).mono ?_); exact zq7f_; exact zq69_; rintro e p5 ⟨rfl, hi, hb, hk⟩; refine ⟨_, rfl, ?_⟩; have n_ := A4_ (Kd.R_mono (Kd.R_keep (IsS110.apart (show IsS110 w0 _ g C0 d3 from by repeat (first | (with_reducible first | exact o0.out | apply IsS110.alloc | apply IsS110.drewN | apply IsS110.drew | apply IsS110.set_1) | exact o0.out)) zq1f_ (by decide)) hk (fun _ h => h.2)) (fun _ h => h.1)) (KeepBut.trans zq72_ hk (.inl rfl)) (hb) (hi); clear f4 HK HB o0; obtain ⟨f4, HK, HB, o0⟩ := n_; (try clear hb); (try clear hk); (try clear hi)) | ((with_reducible refine gate_dst (N := 40) rfl ?_); refine Kd.R_lit (Kd.int .i64) _ 3 ?hg (N := 40) ?hd (xs := ([(-1), 11, 2000000] : List Int)) (inner := [.int .i64 (-1), .int .i64 11, .int .i64 2000000]) (ok := fun _ => True) (okp := fun _ => True) ?hr ?hp (fun _ hk => hk) trivial (Below.refl _ _) (Nat.le_refl _) (by simp) ?_; (case hd => rfl); (case hg => rfl); (case hr => first | (go_simp; done) | (go_simp; rfl)); (case hp => exact (Reps.one (show Kd.M (Kd.int .i64) _ _ _ (-1) [.int .i64 (-1)] from rfl) (Reps.one (show Kd.M (Kd.int .i64) _ _ _ 11 [.int .i64 11] from rfl) (Reps.one (show Kd.M (Kd.int .i64) _ _ _ 2000000 [.int .i64 2000000] from rfl) (Reps.none _ _))))); intro S1 p6 y1 hb am an; clear am an; (first | rw [← U0.out] at y1 | (simp only [Int.reduceToNat] at y1; rw [← U0.out] at y1)); have n_ := A5_ (Kd.R_below zq1f_ hb) (Kd.R_lower y1 (keep_size (w := w) (g := g) (row := none) zq72_)) (IsS110.below zq7f_ hb) (KeepBut.trans zq72_ (KeepBut.of_below hb g none) (.inl rfl)) (below_step zq69_ hb); clear f4 o0 HK HB; obtain ⟨f4, f5, o0, HK, HB⟩ := n_; clear hb y1; obtain ⟨i1, g1, z1⟩ := Kd.R_slice f5.out; subst z1) | ((with_reducible refine gate_callee (f := 98) rfl ?_); refine gl_ 41 Try.func98 #[.pointer (some ⟨g, 0, none⟩), .slice i1 F0.length g1] ?_; (with_reducible refine (spec_l15Rd_num.calls k g C0 d5 _ _ F0 d6 d7 w0 _ ?_ ?_ ?_ ?_ ?_ E4.out).mono ?_); exact zq7f_; exact zq69_; exact zq88_; exact zq50_; exact zq56_; rintro e p7 ⟨rfl, hi, hb, hk⟩; refine ⟨_, rfl, ?_⟩; have n_ := A5_ (Kd.R_mono (Kd.R_keep (IsS110.apart (show IsS110 w0 _ g C0 d5 from by repeat (first | (with_reducible first | exact o0.out | apply IsS110.alloc | apply IsS110.drewN | apply IsS110.drew | apply IsS110.set_1) | exact o0.out)) zq1f_ (by decide)) hk (fun _ h => h.2)) (fun _ h => h.1)) (Kd.R_mono (Kd.R_keep (IsS110.apart (show IsS110 w0 _ g C0 d5 from by repeat (first | (with_reducible first | exact o0.out | apply IsS110.alloc | apply IsS110.drewN | apply IsS110.drew | apply IsS110.set_1) | exact o0.out)) zq20_ (by decide)) hk (fun _ h => h.2)) (fun _ h => h.1)) (KeepBut.trans zq72_ hk (.inl rfl)) (hb) (hi); clear f4 f5 HK HB o0; obtain ⟨f4, f5, HK, HB, o0⟩ := n_; (try clear hb); have v0 : 0 ≤ (d2 : Int) := of_decide_eq_true zq5f_; have u0 : (d2 : Int) < ((d0.length : Int) : Int) := of_decide_eq_true zq5f_; obtain ⟨R0, g2, z2, c0, aH0, bg0, au0⟩ := Kd.R_form f4.out (by omega); (first | cases z2 | (injection z2 with ah aI aJ; (first | subst ah | (injection ah with ah; subst ah)); subst aJ; clear aI)); have aF0 := Aside0.mk c0; have aT0 := Aside0.mk au0; clear c0 aH0 au0; obtain ⟨ba0, ap0, aj0, ad0, ag0⟩ := Kd.R_elem f4.out z34 (d2 : Int) v0 u0; obtain rfl := k34_openM aj0; have s0 : p7.cell? ⟨R0, (d2 : Int).toNat * 4, none⟩ = some (.int .i64 ((rd_T34 d0 d2).f0)) := ad0 0 _ rfl; have s1 : p7.cell? ⟨R0, (d2 : Int).toNat * 4 + 1, none⟩ = some (.int .i64 ((rd_T34 d0 d2).f1)) := ad0 1 _ rfl; have s2 : p7.cell? ⟨R0, (d2 : Int).toNat * 4 + 2, none⟩ = some (.int .i64 ((rd_T34 d0 d2).f2)) := ad0 2 _ rfl; have s3 : p7.cell? ⟨R0, (d2 : Int).toNat * 4 + 3, none⟩ = some (.int .i64 ((rd_T34 d0 d2).f3)) := ad0 3 _ rfl; have al0 : p7.frozen? ⟨R0, (d2 : Int).toNat * 4, none⟩ = false := ag0 0; have al1 : p7.frozen? ⟨R0, (d2 : Int).toNat * 4 + 1, none⟩ = false := ag0 1; have al2 : p7.frozen? ⟨R0, (d2 : Int).toNat * 4 + 2, none⟩ = false := ag0 2; have al3 : p7.frozen? ⟨R0, (d2 : Int).toNat * 4 + 3, none⟩ = false := ag0 3; clear ap0 ad0 ag0 aj0; replace v0 := eq_true v0; replace u0 := eq_true u0; have aR0 := Aside0.mk (show Kd.R k34 34 p7 w.heap.size (fun _ => True) (.slice (some ⟨R0, 0, none⟩) d0.length g0) d0 from zq1f_); obtain ⟨ba1, ap1, aj1, ad1, ag1⟩ := Kd.R_elem aR0.out z34 (d2 : Int) (of_decide_eq_true zq5f_) zqa0_; obtain rfl := k34_openM aj1; have ak0 := Kd.R_seg aR0.out (d2 : Int) (of_decide_eq_true zq5f_) zqa0_ (seg := [.int .i64 d6]) (j := 3) ap1 ad1 (show 4 ≤ 4 from by decide) (x' := (⟨(rd_T34 d0 d2).f0, (rd_T34 d0 d2).f1, (rd_T34 d0 d2).f2, d6⟩ : S34)) (k34_mkM _ _ _ (⟨(rd_T34 d0 d2).f0, (rd_T34 d0 d2).f1, (rd_T34 d0 d2).f2, d6⟩ : S34) ) (fun _ hk => hk); have s4 := ad1 3 _ rfl; (try simp only [show (k34).sz = 4 from rfl, Nat.mul_one, Nat.add_zero] at s4); have al4 := ag1 3; (try simp only [show (k34).sz = 4 from rfl, Nat.mul_one, Nat.add_zero] at al4); clear ap1 ad1 ag1 aj1) | ((with_reducible refine gate_store (t := 3) (p := 43) rfl ?_); refine store_event (t := 3) (p := 43) (v := ?vo_w52) (w1 := (p7.setCell ⟨R0, (d2 : Int).toNat * 4 + 3, none⟩ (.int .i64 d6))) ?hg ?ho ?hn ?hr ?_; (case ho => rfl); (case hg => rfl); (case hn => rfl); (case hr => first | (go_simp; done) | (go_simp; rfl)); intro p8 hw; have hg : p7.grownBy p8 (some R0) := (by rw [hw]; exact ak0.2); have aD : Kd.R k34 34 p8 w.heap.size (fun _ => True) (.slice (some ⟨R0, 0, none⟩) d0.length g0) F1 := (by rw [hw, U1.out]; exact ak0.1); clear ak0; have n_ := A5_ (IsS110.grown zq7f_ hg (IsS110.own_ne o0.out f4.out (by decide))) (aD) (Kd.R_over' (v := (.slice (some ⟨R0, 0, none⟩) d0.length g0)) zq20_ (Kd.R_typed f4.out) (by decide) hg) ((by rw [hw]; exact below_set (HB.out) (Nat.le_trans HL.out aF0.out) : Below w0.heap.size w0 p8)) (KeepBut.trans zq72_ (KeepBut.of_grown hg g) (Kd.R_base2 f4.out)); clear o0 f4 f5 HB HK; obtain ⟨o0, f4, f5, HB, HK⟩ := n_; clear hg hw aD))
     go_ret
     exact ⟨_, zq63_, zq1f_, zq7f_, zq69_, zq72_⟩
    ·rw [if_neg r3] at H; have q10 : (d4 == 2) = false := beq_eq_false_iff_ne.mpr r3; have q11 : (d4 != 2) = true := bne_iff_ne.mpr r3; by_cases r4 : d4 = 3
     ·rw [if_pos r4] at H; have q12 : (d4 == 3) = true := beq_iff_eq.mpr r4; have q13 : (d4 != 3) = false := bne_eq_false_iff_eq.mpr r4; clear r4; have H' := Aside0.mk H; clear H
      go_enter Try.func59, Try.ntmps59
      go_wp2_with (first | ((with_reducible refine gate_callee (f := 92) rfl ?_); refine gl_ 6 Try.func92 #[.pointer (some ⟨g, 0, none⟩)] ?_; (with_reducible refine (spec_l2Prog.calls k g C0 C1 d0 d1 w0 _ ?_ ?_ A2.out).mono ?_); exact zq7f_; exact zq69_; rintro e p0 ⟨S0, rfl, y0, hi, hb, hk⟩; refine ⟨_, rfl, ?_⟩; have n_ := A4_ (Kd.R_lower y0 (keep_size (w := w) (g := g) (row := none) zq72_)) (KeepBut.trans zq72_ hk (.inl rfl)) (hb) (hi); clear HK HB o0; obtain ⟨f4, HK, HB, o0⟩ := n_; (try clear hb); (try clear hk); (try clear hi); (try clear y0); obtain ⟨i0, g0, z0⟩ := Kd.R_slice f4.out; subst z0) | ((with_reducible refine gate_callee (f := 91) rfl ?_); refine gl_ 14 Try.func91 #[.pointer (some ⟨g, 0, none⟩), .int .i64 (d0.length : Int)] ?_; (with_reducible refine (spec_l15Rd_pick.calls k g C0 d1 (d0.length : Int) d2 d3 w0 _ ?_ ?_ A6.out).mono ?_); exact zq7f_; exact zq69_; rintro e p3 ⟨rfl, hi, hb, hk⟩; refine ⟨_, rfl, ?_⟩; have n_ := A4_ (Kd.R_mono (Kd.R_keep (IsS110.apart (show IsS110 w0 _ g C0 d1 from by repeat (first | (with_reducible first | exact o0.out | apply IsS110.alloc | apply IsS110.drewN | apply IsS110.drew | apply IsS110.set_1) | exact o0.out)) zq1f_ (by decide)) hk (fun _ h => h.2)) (fun _ h => h.1)) (KeepBut.trans zq72_ hk (.inl rfl)) (hb) (hi); clear f4 HK HB o0; obtain ⟨f4, HK, HB, o0⟩ := n_; (try clear hb); (try clear hk); (try clear hi)) | ((with_reducible refine gate_callee (f := 91) rfl ?_); refine gl_ 16 Try.func91 #[.pointer (some ⟨g, 0, none⟩), .int .i64 40] ?_; (with_reducible refine (spec_l15Rd_pick.calls k g C0 d3 40 d4 d5 w0 _ ?_ ?_ A7.out).mono ?_); exact zq7f_; exact zq69_; rintro e p5 ⟨rfl, hi, hb, hk⟩; refine ⟨_, rfl, ?_⟩; have n_ := A4_ (Kd.R_mono (Kd.R_keep (IsS110.apart (show IsS110 w0 _ g C0 d3 from by repeat (first | (with_reducible first | exact o0.out | apply IsS110.alloc | apply IsS110.drewN | apply IsS110.drew | apply IsS110.set_1) | exact o0.out)) zq1f_ (by decide)) hk (fun _ h => h.2)) (fun _ h => h.1)) (KeepBut.trans zq72_ hk (.inl rfl)) (hb) (hi); clear f4 HK HB o0; obtain ⟨f4, HK, HB, o0⟩ := n_; (try clear hb); (try clear hk); (try clear hi)))
      go_loopg [3] k (fun kq v3 w' => ∃ (a0 : List (S34)), Aside0 (spec_l2Bent.l0 kq a0 d2 C0 d5 = some (r1, r2)) ∧ Aside0 (kq ≤ k) ∧ Aside0 (Kd.R k34 34 w' w.heap.size (fun _ => True) v3 a0) ∧ Aside0 (IsS110 w0 w' g C0 d5) ∧ Aside0 (KeepBut w w' g none) ∧ Aside0 (Below w0.heap.size w0 w'))
      case atStart => exact ⟨(d0), H', ⟨Nat.le_refl _⟩, ⟨zq1f_⟩, ⟨zq7f_⟩, ⟨zq72_⟩, ⟨zq69_⟩⟩
      case round =>
       clear H'
       try clear c1
       try clear p1
       try clear q1
       try clear hx1
       try clear hf1
       try clear c2
       try clear p2
       try clear q2
       try clear hx2
       try clear hf2
       try clear c3
       try clear q0
       try clear q3
       try clear q5
       try clear hx3
       try clear hf3
       try clear c4
       try clear p4
       try clear q4
       try clear hx4
       try clear hf4
       try clear c5
       try clear hx5
       try clear hf5
       try clear c8
       try clear q6
       try clear q7
       try clear c9
       try clear c10
       try clear q14
       try clear c11
       try clear q15
       try clear c12
       try clear v0
       try clear u0
       try clear hx12
       try clear hf12
       try clear c21
       try clear hx21
       try clear hf21
       try clear r0
       try clear q8
       try clear q9
       try clear c25
       try clear q16
       try clear c26
       try clear q17
       try clear c27
       try clear v1
       try clear u1
       try clear hx27
       try clear hf27
       try clear c36
       try clear hx36
       try clear hf36
       try clear r3
       try clear q10
       try clear q11
       try clear c40
       try clear q18
       try clear c41
       try clear q19
       try clear c42
       try clear v2
       try clear u2
       try clear hx42
       try clear hf42
       try clear c51
       try clear hx51
       try clear hf51
       try clear r4
       try clear q12
       try clear q13
       try clear s0
       try clear s1
       try clear s2
       try clear s3
       try clear s4
       try clear s5
       try clear s6
       try clear s7
       try clear s8
       try clear s9
       try clear s10
       try clear s11
       try clear s12
       try clear s13
       try clear s14
       try clear v0
       try clear v1
       try clear v2
       try clear u0
       try clear u1
       try clear u2
       obtain ⟨a0, HA, aa0, j0, o0, HK, HB⟩ := hrel
       cases gk with
       | zero => exact absurd HA.out (by simp [spec_l2Bent.l0])
       | succ k1 =>
        have H := HA.out; clear HA; simp only [spec_l2Bent.l0] at H; by_cases r5 : (a0.length : Int) < 11
        ·rw [if_pos r5] at H; have q20 : decide ((a0.length : Int) < 11) = true := decide_eq_true r5; have q21 : decide (a0.length < 11) = true := decide_eq_true (by omega); clear r5; replace H := ifd2_ H; obtain ⟨q22, q23, H⟩ := H; replace H := ifp_ H; obtain ⟨r6, H⟩ := H; have aS0 := Aside0.mk r6; clear r6; obtain ⟨F0, J0⟩ : ∃ y_ : List (S34), y_ = (a0 ++ [(⟨(rd_T34 a0 d2).f0, (rd_T34 a0 d2).f1, (rd_T34 a0 d2).f2, (rd_T34 a0 d2).f3⟩ : S34)]) := ⟨_, rfl⟩; replace H : (spec_l2Bent.l0 k1 F0 d2 C0 d5) = some (r1, r2) := by first | (rw [J0]; with_reducible exact H) | (have O0 := (Option.bind_some _ _).symm.trans H; rw [J0]; with_reducible exact O0) | (have O0 := (Option.bind_some _ _).symm.trans H; with_reducible exact O0) | with_reducible exact H | (rw [J0]; exact H) | exact H
         have U0 := Aside0.mk J0; clear J0; have H' := Aside0.mk H; clear H; obtain ⟨i1, g1, z1⟩ := Kd.R_slice j0.out; subst z1; have v4 : 0 ≤ (d2 : Int) := of_decide_eq_true zq5f_; have u3 : d2 < (a0.length : Int) := of_decide_eq_true zq5f_; obtain ⟨K0, N0, s15, s16, s17, s18⟩ := at_T34 (Kd.R_reads' j0.out).2.2 d2 v4 u3; cases N0; replace v4 := eq_true v4; replace u3 := eq_true u3
         go_wp2_with (first | ((with_reducible refine gate_builtin (b := .append) (xs := #[.tmp 49, .tmp 54]) rfl ?_); at_builtin; refine Kd.R_append k34 w.heap.size rfl (.tmp 49) (.tmp 54) 24 34 (.agg #[(.int .i64 0), (.int .i64 0), (.int .i64 0), (.int .i64 0)]) 32 rfl Try.underlying24 info34 rfl (by decide) (by omega) (.slice (some K0) a0.length g1) a0 (⟨(rd_T34 a0 d2).f0, (rd_T34 a0 d2).f1, (rd_T34 a0 d2).f2, (rd_T34 a0 d2).f3⟩ : S34) [.int .i64 ((rd_T34 a0 d2).f0), .int .i64 ((rd_T34 a0 d2).f1), .int .i64 ((rd_T34 a0 d2).f2), .int .i64 ((rd_T34 a0 d2).f3)] (fun _ => True) (fun _ => False) rfl rfl ?aP (fun _ hk => hk.elim) ?aF ?aO (Below.refl _ _) ?aS ?aL ?_; (case aP => exact k34_mkM _ _ _ (⟨(rd_T34 a0 d2).f0, (rd_T34 a0 d2).f1, (rd_T34 a0 d2).f2, (rd_T34 a0 d2).f3⟩ : S34)); (case aF => exact (fun _ _ => trivial)); (case aO => exact zq25_); (case aS => exact (keep_size (w := w) (g := g) (row := none) zq72_)); (case aL => have := aS0.out; omega); intro S1 p6 ho hb hg aB; rw [← U0.out] at ho; have n_ := A4_ (IsS110.grown zq7f_ hg (IsS110.own_ne o0.out j0.out (by decide))) (below_weaken zq69_ HL.out hb) (KeepBut.trans zq72_ (KeepBut.of_grown hg g) (Kd.R_base2 j0.out)) (ho); clear o0 HB HK j0; obtain ⟨o0, HB, HK, f5⟩ := n_; clear ho hb hg aB))
         go_roundg k1
         case measure => have := aa0.out; omega
         case rel => exact ⟨(F0), H', ⟨by have := aa0.out; omega⟩, ⟨zq20_⟩, ⟨zq7f_⟩, ⟨zq72_⟩, ⟨zq69_⟩⟩
        ·rw [if_neg r5] at H; have q20 : decide ((a0.length : Int) < 11) = false := decide_eq_false r5; have q21 : decide (a0.length < 11) = false := decide_eq_false (by omega); clear r5; simp only [Option.some.injEq, Prod.mk.injEq] at H; obtain ⟨rfl, rfl⟩ := H; obtain ⟨i1, g1, z1⟩ := Kd.R_slice j0.out; subst z1
         go_wp2
         go_ret
         exact ⟨_, zq63_, zq25_, zq7f_, zq69_, zq72_⟩
     ·rw [if_neg r4] at H; have q12 : (d4 == 3) = false := beq_eq_false_iff_ne.mpr r4; have q13 : (d4 != 3) = true := bne_iff_ne.mpr r4; simp only [Option.some.injEq, Prod.mk.injEq] at H; obtain ⟨rfl, rfl⟩ := H
      go_enter Try.func59, Try.ntmps59
      go_wp2_with (first | ((with_reducible refine gate_callee (f := 92) rfl ?_); refine gl_ 6 Try.func92 #[.pointer (some ⟨g, 0, none⟩)] ?_; (with_reducible refine (spec_l2Prog.calls k g C0 C1 d0 d1 w0 _ ?_ ?_ A2.out).mono ?_); exact zq7f_; exact zq69_; rintro e p0 ⟨S0, rfl, y0, hi, hb, hk⟩; refine ⟨_, rfl, ?_⟩; have n_ := A4_ (Kd.R_lower y0 (keep_size (w := w) (g := g) (row := none) zq72_)) (KeepBut.trans zq72_ hk (.inl rfl)) (hb) (hi); clear HK HB o0; obtain ⟨f4, HK, HB, o0⟩ := n_; (try clear hb); (try clear hk); (try clear hi); (try clear y0); obtain ⟨i0, g0, z0⟩ := Kd.R_slice f4.out; subst z0) | ((with_reducible refine gate_callee (f := 91) rfl ?_); refine gl_ 14 Try.func91 #[.pointer (some ⟨g, 0, none⟩), .int .i64 (d0.length : Int)] ?_; (with_reducible refine (spec_l15Rd_pick.calls k g C0 d1 (d0.length : Int) d2 d3 w0 _ ?_ ?_ A6.out).mono ?_); exact zq7f_; exact zq69_; rintro e p3 ⟨rfl, hi, hb, hk⟩; refine ⟨_, rfl, ?_⟩; have n_ := A4_ (Kd.R_mono (Kd.R_keep (IsS110.apart (show IsS110 w0 _ g C0 d1 from by repeat (first | (with_reducible first | exact o0.out | apply IsS110.alloc | apply IsS110.drewN | apply IsS110.drew | apply IsS110.set_1) | exact o0.out)) zq1f_ (by decide)) hk (fun _ h => h.2)) (fun _ h => h.1)) (KeepBut.trans zq72_ hk (.inl rfl)) (hb) (hi); clear f4 HK HB o0; obtain ⟨f4, HK, HB, o0⟩ := n_; (try clear hb); (try clear hk); (try clear hi)) | ((with_reducible refine gate_callee (f := 91) rfl ?_); refine gl_ 16 Try.func91 #[.pointer (some ⟨g, 0, none⟩), .int .i64 40] ?_; (with_reducible refine (spec_l15Rd_pick.calls k g C0 d3 40 d4 d5 w0 _ ?_ ?_ A7.out).mono ?_); exact zq7f_; exact zq69_; rintro e p5 ⟨rfl, hi, hb, hk⟩; refine ⟨_, rfl, ?_⟩; have n_ := A4_ (Kd.R_mono (Kd.R_keep (IsS110.apart (show IsS110 w0 _ g C0 d3 from by repeat (first | (with_reducible first | exact o0.out | apply IsS110.alloc | apply IsS110.drewN | apply IsS110.drew | apply IsS110.set_1) | exact o0.out)) zq1f_ (by decide)) hk (fun _ h => h.2)) (fun _ h => h.1)) (KeepBut.trans zq72_ hk (.inl rfl)) (hb) (hi); clear f4 HK HB o0; obtain ⟨f4, HK, HB, o0⟩ := n_; (try clear hb); (try clear hk); (try clear hi)))
      go_ret
      exact ⟨_, zq63_, zq1f_, zq7f_, zq69_, zq72_⟩

/-! ### spec_DrawExecRun: function 12 -/
def spec_DrawExecRun.f (k : Nat) (l0 : List Int) : Option ((List (S46)) × (List (S34))) := (spec_l15Open.f l0).bind fun bt223 => ((spec_l1Boxes.f k bt223.1 bt223.2).bind fun bt226 => ((spec_l2Bent.f k bt223.1 bt226.2).bind fun bt230 => (some (bt226.1, bt230.1))))
theorem spec_DrawExecRun.mono : ∀ a0 k, LeO (spec_DrawExecRun.f k a0) (spec_DrawExecRun.f (k + 1) a0) := by
 intro a0 k
 unfold spec_DrawExecRun.f
 repeat' first
   | (with_reducible exact spec_l1Boxes.mono _ _ _)
   | (with_reducible exact spec_l2Bent.mono _ _ _)
   | (with_reducible exact LeO.refl _)
   | (with_reducible exact LeO.none _)
   | (with_reducible refine LeO.ite ?_ ?_)
   | (with_reducible refine LeO.bind ?_ (fun _ => ?_))
   | exact spec_l1Boxes.mono _ _ _
   | exact spec_l2Bent.mono _ _ _
   | exact LeO.none _
   | refine LeO.ite ?_ ?_
   | refine LeO.bind ?_ (fun _ => ?_)
set_option maxHeartbeats 8000000 in
set_option maxRecDepth 100000 in
theorem spec_DrawExecRun.calls (k : Nat) (A0 : Option Addr) (c0 : Nat) (l0 : List Int) (r1 : List (S46)) (r2 : List (S34)) (w : World) (Y0 : Kd.C (Kd.int .u8) w A0 l0.length l0) (ab0 : l0.length ≤ c0) (h : spec_DrawExecRun.f k l0 = some (r1, r2)) :
  Calls Try.prog 12 #[.slice A0 l0.length c0] w fun e w' => ∃ v0_ v1_ : Value, e = .returned (.tuple #[v0_, v1_]) ∧ Kd.R k46 46 w' w.heap.size (fun _ => True) v0_ r1 ∧ Kd.R k34 34 w' w.heap.size (fun _ => True) v1_ r2 ∧ Below w.heap.size w w' := by
 have X0 := Aside0.mk Y0; have ac0 := Aside0.mk ab0; clear Y0 ab0; have HB := Aside0.mk (Below.refl w.heap.size w); have H : ((spec_l15Open.f l0).bind fun B0 => ((spec_l1Boxes.f k B0.1 B0.2).bind fun B1 => ((spec_l2Bent.f k B0.1 B1.2).bind fun B2 => (some (B1.1, B2.1))))) = some (r1, r2) := h; clear h; replace H := Option.bind_eq_some_iff.mp H; obtain ⟨⟨d0, d1⟩, E0, H⟩ := H; (try dsimp only at H); have A2 := Aside0.mk E0; clear E0; replace H := Option.bind_eq_some_iff.mp H; obtain ⟨⟨d2, d3⟩, E1, H⟩ := H; (try dsimp only at H); have A3 := Aside0.mk E1; clear E1; replace H := Option.bind_eq_some_iff.mp H; obtain ⟨⟨d4, d5⟩, E2, H⟩ := H; (try dsimp only at H); have A4 := Aside0.mk E2; clear E2; simp only [Option.some.injEq, Prod.mk.injEq] at H; obtain ⟨rfl, rfl⟩ := H
 go_enter Try.func12, Try.ntmps12
 go_wp2_with (first | ((with_reducible refine gate_callee (f := 57) rfl ?_); refine gl_ 7 Try.func57 #[.slice A0 l0.length c0] ?_; (with_reducible refine (spec_l15Open.calls _ _ l0 d0 d1 w _ ?_ ?_ ?_ A2.out).mono ?_); exact zq6f_; exact X0.out; exact ac0.out; rintro e w5 ⟨bz0, rfl, hi, hb, bj0⟩; refine ⟨_, rfl, ?_⟩; have n_ := A2_ (hb) (hi); clear HB; obtain ⟨HB, o0⟩ := n_; (try clear hb); (try clear bj0); (try clear hi)) | ((with_reducible refine gate_callee (f := 58) rfl ?_); refine gl_ 9 Try.func58 #[.pointer (some ⟨bz0, 0, none⟩)] ?_; (with_reducible refine (spec_l1Boxes.calls k bz0 d0 d1 d2 d3 w _ ?_ ?_ A3.out).mono ?_); exact zq7f_; exact zq69_; rintro e w6 ⟨S0, rfl, y0, hi, hb, hk⟩; refine ⟨_, rfl, ?_⟩; have n_ := A3_ (Kd.R_lower y0 (below_size zq69_)) (hb) (hi); clear HB o0; obtain ⟨f0, HB, o0⟩ := n_; (try clear hb); (try clear hi); (try clear y0)) | ((with_reducible refine gate_callee (f := 59) rfl ?_); refine gl_ 12 Try.func59 #[.pointer (some ⟨bz0, 0, none⟩)] ?_; (with_reducible refine (spec_l2Bent.calls k bz0 d0 d3 d4 d5 w _ ?_ ?_ A4.out).mono ?_); exact zq7f_; exact zq69_; rintro e w7 ⟨S1, rfl, y0, hi, hb, hk⟩; refine ⟨_, rfl, ?_⟩; have n_ := A4_ (Kd.R_mono (Kd.R_keep (IsS110.apart (show IsS110 w _ bz0 d0 d3 from by repeat (first | (with_reducible first | exact o0.out | apply IsS110.alloc | apply IsS110.drewN | apply IsS110.drew | apply IsS110.set_1) | exact o0.out)) zq13_ (by decide)) hk (fun _ h => h.2)) (fun _ h => h.1)) (Kd.R_lower y0 (below_size zq69_)) (hb) (hi); clear f0 HB o0; obtain ⟨f0, f1, HB, o0⟩ := n_; (try clear hb); (try clear hk); (try clear hi); (try clear y0)))
 go_ret2
 exact ⟨_, _, zq63_, zq13_, zq14_, zq69_⟩

/-! ### impl_in: function 64 -/
def impl_in.f (a0 : Int) (a1 : Int) (a2 : Int) : Option (Bool) := if a0 ≥ a1 then (some (decide (a0 ≤ a2))) else (some false)
set_option maxHeartbeats 8000000 in
set_option maxRecDepth 100000 in
theorem impl_in.calls (a0 : Int) (a1 : Int) (a2 : Int) (r : Bool) (w : World) (h : impl_in.f a0 a1 a2 = some r) :
  Calls Try.prog 64 #[.int .i64 a0, .int .i64 a1, .int .i64 a2] w fun e w' => e = .returned (.bool r) ∧ Drawn0 w w' := by
 have H : (if a0 ≥ a1 then (some (decide (a0 ≤ a2))) else (some false)) = some r := h; clear h; replace H := ifc_ H
 rcases H with ⟨c4b0, H⟩ | ⟨c4b0, H⟩
 ·change decide (a1 ≤ a0) = true at c4b0; obtain rfl := Option.some.inj H
  go_enter Try.func64, Try.ntmps64
  go_wp2
  go_ret
  exact ⟨zq64_, zq92_⟩
 ·change decide (a1 ≤ a0) = false at c4b0; obtain rfl := Option.some.inj H
  go_enter Try.func64, Try.ntmps64
  go_wp2
  go_ret
  exact ⟨zq64_, zq92_⟩

/-! ### impl_BoxOk: function 25 -/
def impl_BoxOk.l0 : Nat → List (S46) → List (S46) → Int → Int → Option (Bool)
 | 0, _, _, _, _ => none
 | k + 1, x0, x5, x6, x7 => if x7 < x6 then (if 0 ≤ x7 then (if x7 < (x5.length : Int) then ((impl_in.f ((rd_T46 x5 x7).f0) 0 1000000).bind fun t236 => (if t236 = true then ((impl_in.f ((rd_T46 x5 x7).f1) (-1000000) 1000000).bind fun t237 => (if t237 = true then (impl_BoxOk.l0 k x0 x5 x6 (wrap64 (x7 + 1))) else (some false))) else (some false))) else (none)) else (none)) else (some ((x0.length : Int) == 4))
def impl_BoxOk.f (k : Nat) (l0 : List (S46)) : Option (Bool) := impl_BoxOk.l0 k l0 l0 (l0.length : Int) 0
theorem impl_BoxOk.mono_l : ∀ k, (∀ y0 y1 y2 y3, LeO (impl_BoxOk.l0 k y0 y1 y2 y3) (impl_BoxOk.l0 (k + 1) y0 y1 y2 y3))
 | 0 => fun _ _ _ _ r h => by simp [impl_BoxOk.l0] at h
 | k + 1 => by
  have L0 := impl_BoxOk.mono_l k
  ·intro y0 y1 y2 y3
   unfold impl_BoxOk.l0
   repeat' first
   | (with_reducible exact L0 _ _ _ _)
   | (with_reducible exact LeO.refl _)
   | (with_reducible exact LeO.none _)
   | (with_reducible refine LeO.ite ?_ ?_)
   | (with_reducible refine LeO.bind ?_ (fun _ => ?_))
   | exact L0 _ _ _ _
   | exact LeO.none _
   | refine LeO.ite ?_ ?_
   | refine LeO.bind ?_ (fun _ => ?_)
theorem impl_BoxOk.mono : ∀ a0 k, LeO (impl_BoxOk.f k a0) (impl_BoxOk.f (k + 1) a0) := by
 intro a0 k
 have L0 := impl_BoxOk.mono_l k
 unfold impl_BoxOk.f
 repeat' first
   | (with_reducible exact L0 _ _ _ _)
   | (with_reducible exact LeO.refl _)
   | (with_reducible exact LeO.none _)
   | (with_reducible refine LeO.ite ?_ ?_)
   | (with_reducible refine LeO.bind ?_ (fun _ => ?_))
   | exact L0 _ _ _ _
   | exact LeO.none _
   | refine LeO.ite ?_ ?_
   | refine LeO.bind ?_ (fun _ => ?_)
set_option maxHeartbeats 8000000 in
set_option maxRecDepth 100000 in
theorem impl_BoxOk.calls (k : Nat) (A0 : Option Addr) (c0 : Nat) (l0 : List (S46)) (r : Bool) (w : World) (Y0 : Kd.C k46 w A0 l0.length l0) (ab0 : l0.length ≤ c0) (h : impl_BoxOk.f k l0 = some r) :
  Calls Try.prog 25 #[.slice A0 l0.length c0] w fun e w' => e = .returned (.bool r) ∧ Below w.heap.size w w' := by
 have ay0 := Try.underlying46; have X0 := Aside0.mk Y0; have ac0 := Aside0.mk ab0; clear Y0 ab0; have HB := Aside0.mk (Below.refl w.heap.size w); have H : (impl_BoxOk.l0 k l0 l0 (l0.length : Int) 0) = some r := h; clear h; have H' := Aside0.mk H; clear H
 go_enter Try.func25, Try.ntmps25
 go_wp2
 go_loopg [7] k (fun kq v7 w' => ∃ (a0 : Int), v7 = .int .i64 a0 ∧ Aside0 (impl_BoxOk.l0 kq l0 l0 (l0.length : Int) a0 = some r) ∧ Aside0 (kq ≤ k) ∧ Aside0 (Below w.heap.size w w'))
 case atStart => exact ⟨(0), zq64_, H', ⟨Nat.le_refl _⟩, ⟨zq6f_⟩⟩
 case round =>
  clear H'; obtain ⟨a0, rfl, HA, aa0, HB⟩ := hrel
  cases gk with
  | zero => exact absurd HA.out (by simp [impl_BoxOk.l0])
  | succ k1 =>
   have H := HA.out; clear HA; simp only [impl_BoxOk.l0] at H; replace H := ifc_ H
   rcases H with ⟨c2b0, H⟩ | ⟨c2b0, H⟩
   ·replace H := ifd2_ H; obtain ⟨q0, q1, H⟩ := H; replace H := bs_ H; obtain ⟨d0, A5, H⟩ := H; (try dsimp only at H); replace H := ifB_ H
    rcases H with ⟨rfl, H⟩ | ⟨rfl, H⟩
    ·replace H := bs_ H; obtain ⟨d1, A7, H⟩ := H; (try dsimp only at H); replace H := ifB_ H
     rcases H with ⟨rfl, H⟩ | ⟨rfl, H⟩
     ·have H' := Aside0.mk H; clear H; have v0 : 0 ≤ (a0 : Int) := of_decide_eq_true zq5f_; have u0 : a0 < (l0.length : Int) := of_decide_eq_true zq5f_; obtain ⟨K0, N0, s0, s1⟩ := at_T46 X0.out a0 v0 u0; cases N0; replace s0 := pb_ HB.out s0; replace s1 := pb_ HB.out s1; replace v0 := eq_true v0; replace u0 := eq_true u0
      go_wp2_with (first | ((with_reducible refine gate_dst (N := 4) rfl ?_); refine bxe_ (N := 4) (cs := #[.int .i64 0, .int .i64 0]) (t := 46) ?_; intro c1 hg w9 G hb; have n_ := A4_ (below_step zq6f_ hb) (G) ((zqa9_ : w.heap.size ≤ c1)) ((zqa9_ : w.heap.size ≤ c1)); clear HB; obtain ⟨HB, b0, A1, n0⟩ := n_; clear hb G hg; obtain ⟨l1, l2, m0, m1⟩ := bz2_ b0.out) | ((with_reducible refine gate_callee (f := 64) rfl ?_); refine gl_ 13 Try.func64 #[.int .i64 ((rd_T46 l0 a0).f0), .int .i64 0, .int .i64 1000000] ?_; (with_reducible refine (impl_in.calls ((rd_T46 l0 a0).f0) 0 1000000 true _ A5.out).mono ?_); rintro e w' ⟨rfl, ⟨nd, rfl⟩⟩; refine ⟨_, rfl, ?_⟩) | (go_at_call 64; (with_reducible refine (impl_in.calls ((rd_T46 l0 a0).f1) (-1000000) 1000000 true _ A7.out).mono ?_); rintro e w' ⟨rfl, ⟨nd, rfl⟩⟩; (try clear A7)))
      go_roundg k1
      case measure => have := aa0.out; omega
      case rel => exact ⟨(wrap64 (a0 + 1)), zq64_, H', ⟨by have := aa0.out; omega⟩, ⟨zq6e_⟩⟩
     ·obtain rfl := Option.some.inj H; have v0 : 0 ≤ (a0 : Int) := of_decide_eq_true zq5f_; have u0 : a0 < (l0.length : Int) := of_decide_eq_true zq5f_; obtain ⟨K0, N0, s0, s1⟩ := at_T46 X0.out a0 v0 u0; cases N0; replace s0 := pb_ HB.out s0; replace s1 := pb_ HB.out s1; replace v0 := eq_true v0; replace u0 := eq_true u0
      go_wp2_with (first | ((with_reducible refine gate_dst (N := 4) rfl ?_); refine bxe_ (N := 4) (cs := #[.int .i64 0, .int .i64 0]) (t := 46) ?_; intro c1 hg p0 G hb; have n_ := A4_ (below_step zq6f_ hb) (G) ((zqa9_ : w.heap.size ≤ c1)) ((zqa9_ : w.heap.size ≤ c1)); clear HB; obtain ⟨HB, b0, A1, n0⟩ := n_; clear hb G hg; obtain ⟨l1, l2, m0, m1⟩ := bz2_ b0.out) | ((with_reducible refine gate_callee (f := 64) rfl ?_); refine gl_ 13 Try.func64 #[.int .i64 ((rd_T46 l0 a0).f0), .int .i64 0, .int .i64 1000000] ?_; (with_reducible refine (impl_in.calls ((rd_T46 l0 a0).f0) 0 1000000 true _ A5.out).mono ?_); rintro e w' ⟨rfl, ⟨nd, rfl⟩⟩; refine ⟨_, rfl, ?_⟩) | (go_at_call 64; (with_reducible refine (impl_in.calls ((rd_T46 l0 a0).f1) (-1000000) 1000000 false _ A7.out).mono ?_); rintro e w' ⟨rfl, ⟨nd, rfl⟩⟩; (try clear A7)))
      go_ret
      exact ⟨zq63_, zq6e_⟩
    ·obtain rfl := Option.some.inj H; have v0 : 0 ≤ (a0 : Int) := of_decide_eq_true zq5f_; have u0 : a0 < (l0.length : Int) := of_decide_eq_true zq5f_; obtain ⟨K0, N0, s0, s1⟩ := at_T46 X0.out a0 v0 u0; cases N0; replace s0 := pb_ HB.out s0; replace s1 := pb_ HB.out s1; replace v0 := eq_true v0; replace u0 := eq_true u0
     go_wp2_with (first | ((with_reducible refine gate_dst (N := 4) rfl ?_); refine bxe_ (N := 4) (cs := #[.int .i64 0, .int .i64 0]) (t := 46) ?_; intro c1 hg p0 G hb; have n_ := A4_ (below_step zq6f_ hb) (G) ((zqa9_ : w.heap.size ≤ c1)) ((zqa9_ : w.heap.size ≤ c1)); clear HB; obtain ⟨HB, b0, A1, n0⟩ := n_; clear hb G hg; obtain ⟨l1, l2, m0, m1⟩ := bz2_ b0.out) | ((with_reducible refine gate_callee (f := 64) rfl ?_); refine gl_ 13 Try.func64 #[.int .i64 ((rd_T46 l0 a0).f0), .int .i64 0, .int .i64 1000000] ?_; (with_reducible refine (impl_in.calls ((rd_T46 l0 a0).f0) 0 1000000 false _ A5.out).mono ?_); rintro e w' ⟨rfl, ⟨nd, rfl⟩⟩; refine ⟨_, rfl, ?_⟩))
     go_ret
     exact ⟨zq63_, zq6e_⟩
   ·obtain rfl := Option.some.inj H
    go_wp2
    go_ret
    exact ⟨zq63_, zq6f_⟩

/-! ### impl_insOk_1: function 108 -/
def impl_insOk_1.f (a0 : Int) : Option (Bool) := (impl_in.f a0 0 3).bind fun t238 => (some t238)
set_option maxHeartbeats 8000000 in
set_option maxRecDepth 100000 in
theorem impl_insOk_1.calls (a0 : Int) (r : Bool) (w : World) (h : impl_insOk_1.f a0 = some r) :
  Calls Try.prog 108 #[.int .i64 a0] w fun e w' => e = .returned (.bool r) ∧ Drawn0 w w' := by
 have H : ((impl_in.f a0 0 3).bind fun d0 => (some d0)) = some r := h; clear h; replace H := bs_ H; obtain ⟨d0, A2, H⟩ := H; (try dsimp only at H); obtain rfl := Option.some.inj H
 go_enter Try.func108, Try.ntmps108
 go_wp2_with (first | ((with_reducible refine gate_callee (f := 64) rfl ?_); refine gl_ 4 Try.func64 #[.int .i64 a0, .int .i64 0, .int .i64 3] ?_; (with_reducible refine (impl_in.calls a0 0 3 d0 _ A2.out).mono ?_); rintro e w' ⟨rfl, ⟨nd, rfl⟩⟩; refine ⟨_, rfl, ?_⟩))
 go_ret
 exact ⟨zq64_, zq92_⟩

/-! ### impl_insOk_2: function 109 -/
def impl_insOk_2.f (a0 : Int) : Option (Bool) := (impl_in.f a0 0 3).bind fun t239 => (some t239)
set_option maxHeartbeats 8000000 in
set_option maxRecDepth 100000 in
theorem impl_insOk_2.calls (a0 : Int) (r : Bool) (w : World) (h : impl_insOk_2.f a0 = some r) :
  Calls Try.prog 109 #[.int .i64 a0] w fun e w' => e = .returned (.bool r) ∧ Drawn0 w w' := by
 have H : ((impl_in.f a0 0 3).bind fun d0 => (some d0)) = some r := h; clear h; replace H := bs_ H; obtain ⟨d0, A2, H⟩ := H; (try dsimp only at H); obtain rfl := Option.some.inj H
 go_enter Try.func109, Try.ntmps109
 go_wp2_with (first | ((with_reducible refine gate_callee (f := 64) rfl ?_); refine gl_ 4 Try.func64 #[.int .i64 a0, .int .i64 0, .int .i64 3] ?_; (with_reducible refine (impl_in.calls a0 0 3 d0 _ A2.out).mono ?_); rintro e w' ⟨rfl, ⟨nd, rfl⟩⟩; refine ⟨_, rfl, ?_⟩))
 go_ret
 exact ⟨zq64_, zq92_⟩

end Go.Proofs.Ytgdafcakefnpdaa.PFnExecOwn

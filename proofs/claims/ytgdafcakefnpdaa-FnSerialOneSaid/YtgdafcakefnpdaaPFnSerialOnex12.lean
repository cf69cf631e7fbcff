-- Laid by this session's program out of the translation (gen.sh).
import Derived.Test.YtgdafcakefnpdaaPFnSerialOnex0
import Derived.Test.YtgdafcakefnpdaaPFnSerialOnex4
import Derived.Test.YtgdafcakefnpdaaPFnSerialOnex6
import Derived.Test.YtgdafcakefnpdaaPFnSerialOnex11
namespace Go.Proofs.Ytgdafcakefnpdaa.PFnSerialOne
open Go.RowKit Go.Proofs.YtgdafcakefnpdaaW.PrintWords Go.Proofs.YtgdafcakefnpdaaW.PrintLast Go.Proofs.YtgdafcakefnpdaaW.PrintMore
attribute [local go_sem] max2_int min2_int max_two min_two max_three min_three max_four min_four   -- for this text's walks alone
set_option linter.unusedVariables false
set_option linter.unusedSimpArgs false

/-! ### spec_SerialOne: function 31 -/
def spec_SerialOne.f (k : Nat) (l0 : List (S46)) (l1 : List (S34)) : Option ((List (S46)) × Int × Int) := (spec_ExecRun.f k l0 l1).bind fun bt315 => (if bt315.2.2.2 = 3 then (some ((([] : List (S46))), 0, 3)) else ((spec_l1Copy.f l0).bind fun t327 => ((spec_l3Do.f k t327 bt315.1 bt315.2.1 bt315.2.2.1 bt315.2.2.2).bind fun t330 => (some (t330, bt315.2.2.1, bt315.2.2.2)))))
theorem spec_SerialOne.mono : ∀ a0 a1 k, LeO (spec_SerialOne.f k a0 a1) (spec_SerialOne.f (k + 1) a0 a1) := by
 intro a0 a1 k
 unfold spec_SerialOne.f
 repeat' first
   | (with_reducible exact spec_ExecRun.mono _ _ _)
   | (with_reducible exact spec_l3Do.mono _ _ _ _ _ _)
   | (with_reducible exact LeO.refl _)
   | (with_reducible exact LeO.none _)
   | (with_reducible refine LeO.ite ?_ ?_)
   | (with_reducible refine LeO.bind ?_ (fun _ => ?_))
   | exact spec_ExecRun.mono _ _ _
   | exact spec_l3Do.mono _ _ _ _ _ _
   | exact LeO.none _
   | refine LeO.ite ?_ ?_
   | refine LeO.bind ?_ (fun _ => ?_)
def spec_SerialOne.T4 : Bool × List (List Nat × List Nat) := (true, [([], []), ([0], [0]), ([], []), ([1, 2, 1], [1, 2]), ([], []), ([4], [4]), ([], []), ([6], [6]), ([3, 3, 0, 1, 2, 3], [3]), ([5, 8, 0, 1, 2, 3, 4, 5, 8], [5]), ([7, 9, 0, 1, 2, 3, 4, 5, 6, 7, 8, 9], [7])])
def spec_SerialOne.B4 : List Nat := [0, 1, 0, 7, 0, 16, 0, 64, 15, 319, 1023]
theorem spec_SerialOne.tab4 : rtab .any (opsOf Try.f31 4) = spec_SerialOne.T4 := by kernel_rfl
theorem spec_SerialOne.bits4 : waitsOk spec_SerialOne.T4.2 spec_SerialOne.B4 = true := by kernel_rfl
set_option maxHeartbeats 8000000 in
set_option maxRecDepth 100000 in
theorem spec_SerialOne.calls (k : Nat) (A0 : Option Addr) (c0 : Nat) (l0 : List (S46)) (A1 : Option Addr) (c1 : Nat) (l1 : List (S34)) (r1 : List (S46)) (r2 : Int) (r3 : Int) (w : World) (V0 : Kd.C k46 w A0 l0.length l0) (Z0 : l0.length ≤ c0) (V1 : Kd.C k34 w A1 l1.length l1) (Z1 : l1.length ≤ c1) (h : spec_SerialOne.f k l0 l1 = some (r1, r2, r3)) :
  Calls Try.prog 31 #[.slice A0 l0.length c0, .slice A1 l1.length c1] w fun e w' => ∃ v0_ : Value, e = .returned (.tuple #[v0_, .int .i64 r2, .int .i64 r3]) ∧ Kd.R k46 46 w' w.heap.size (fun _ => True) v0_ r1 ∧ Below w.heap.size w w' := by
 have aq0 := Try.underlying30; have U0 := Aside0.mk V0; have aa0 := Aside0.mk Z0; clear V0 Z0; have U1 := Aside0.mk V1; have aa1 := Aside0.mk Z1; clear V1 Z1; have HB := Aside0.mk (Below.refl w.heap.size w); have H : ((spec_ExecRun.f k l0 l1).bind fun F0 => (if F0.2.2.2 = 3 then (some ((([] : List (S46))), 0, 3)) else ((spec_l1Copy.f l0).bind fun e0 => ((spec_l3Do.f k e0 F0.1 F0.2.1 F0.2.2.1 F0.2.2.2).bind fun e1 => (some (e1, F0.2.2.1, F0.2.2.2)))))) = some (r1, r2, r3) := h; clear h; replace H := Option.bind_eq_some_iff.mp H; obtain ⟨⟨e2, e3, e4, e5⟩, y0, H⟩ := H; (try dsimp only at H); have A3 := Aside0.mk y0; clear y0; by_cases c4 : e5 = 3
 ·rw [if_pos c4] at H; have r0 : (e5 == 3) = true := beq_iff_eq.mpr c4; have r4 : (e5 != 3) = false := bne_eq_false_iff_eq.mpr c4; clear c4; obtain ⟨K0, J0⟩ : ∃ y_ : List (S46), y_ = (([] : List (S46))) := ⟨_, rfl⟩; replace H : (some (K0, 0, 3)) = some (r1, r2, r3) := by first | (rw [J0]; with_reducible exact H) | (have T0 := (Option.bind_some _ _).symm.trans H; rw [J0]; with_reducible exact T0) | (have T0 := (Option.bind_some _ _).symm.trans H; with_reducible exact T0) | with_reducible exact H | (rw [J0]; exact H) | exact H
  have ac0 := Aside0.mk J0; clear J0; simp only [Option.some.injEq, Prod.mk.injEq] at H; obtain ⟨rfl, rfl, rfl⟩ := H
  go_enter Try.func31, Try.ntmps31
  go_wp2_with (first | ((with_reducible refine gate_callee (f := 15) rfl ?_); refine gl_ 10 Try.func15 #[.slice A0 l0.length c0, .slice A1 l1.length c1] ?_; (with_reducible refine (spec_ExecRun.calls k _ _ l0 _ _ l1 e2 e3 e4 e5 _ ?_ ?_ ?_ ?_ A3.out).mono ?_); exact zq91_; exact aa0.out; exact zq92_; exact aa1.out; rintro e w5 ⟨L0, L1, rfl, t0, t1, hb⟩; refine ⟨_, rfl, ?_⟩; have n_ := A3_ (Kd.R_lower t0 (below_size zq74_)) (Kd.R_lower t1 (below_size zq74_)) (below_step zq74_ hb); clear HB; obtain ⟨f0, f1, HB⟩ := n_; (try clear hb); (try clear t0); (try clear t1)) | ((with_reducible refine gate_dst (N := 7) rfl ?_); refine bxe_ (N := 7) (cs := #[.slice none 0 0, .slice none 0 0, .int .i64 0, .int .i64 0]) (t := 30) ?_; intro d0 hg w6 C_ hb; have n_ := A6_ (Kd.R_below zq18_ hb) (Kd.R_below zq19_ hb) (below_step zq74_ hb) (C_) ((zqa9_ : w.heap.size ≤ d0)) ((zqa9_ : w.heap.size ≤ d0)); clear f0 f1 HB; obtain ⟨f0, f1, HB, c2, B0, n0⟩ := n_; clear hb C_ hg; obtain ⟨m0, i0, z0⟩ := Kd.R_slice f0.out; subst z0; obtain ⟨j0, j1, j2, j3, k0, k1, k2, k3⟩ := bz4_ c2.out; obtain ⟨m1, i1, z1⟩ := Kd.R_slice f1.out; subst z1) | ((with_reducible refine gate_dst (N := 14) rfl ?_); refine Kd.R_lit k46 _ 46 ?hg (N := 14) ?hd (xs := ([] : List (S46))) (inner := []) (ok := fun _ => True) (okp := fun _ => True) ?hr ?hp (fun _ hk => hk) trivial (Below.refl _ _) (Nat.le_refl _) (by simp) ?_; (case hd => rfl); (case hg => rfl); (case hr => first | (go_simp; done) | (go_simp; rfl)); (case hp => exact (Reps.none _ _)); intro L2 q0 t2 hb ao ap; clear ao ap; (first | rw [← ac0.out] at t2 | (simp only [Int.reduceToNat] at t2; rw [← ac0.out] at t2)); have n_ := A5_ (Kd.R_below (by (with_reducible repeat (first | apply Kd.R_alloc | apply Kd.R_drewN | apply Kd.R_drew)); exact (Kd.R_mono (Kd.R_far (p := ⟨d0, 3, none⟩) (Kd.R_far (p := ⟨d0, 2, none⟩) (Kd.R_far (p := ⟨d0, 1, none⟩) (Kd.R_far (p := ⟨d0, 0, none⟩) (Kd.R_types f0.out c2.out (by decide)) (fun _ hk => hk.2) (.slice m0 e2.length i0)) (fun _ hk => hk.2) (.slice m1 e3.length i1)) (fun _ hk => hk.2) (.int .i64 e4)) (fun _ hk => hk.2) (.int .i64 e5)) (fun _ h_ => h_.1))) hb) (Kd.R_below (by (with_reducible repeat (first | apply Kd.R_alloc | apply Kd.R_drewN | apply Kd.R_drew)); exact (Kd.R_mono (Kd.R_far (p := ⟨d0, 3, none⟩) (Kd.R_far (p := ⟨d0, 2, none⟩) (Kd.R_far (p := ⟨d0, 1, none⟩) (Kd.R_far (p := ⟨d0, 0, none⟩) (Kd.R_types f1.out c2.out (by decide)) (fun _ hk => hk.2) (.slice m0 e2.length i0)) (fun _ hk => hk.2) (.slice m1 e3.length i1)) (fun _ hk => hk.2) (.int .i64 e4)) (fun _ hk => hk.2) (.int .i64 e5)) (fun _ h_ => h_.1))) hb) (Kd.R_lower t2 (below_size zq73_)) (blk_below (g := d0) (o := .cells #[.slice m0 e2.length i0, .slice m1 e3.length i1, .int .i64 e4, .int .i64 e5] 30 (0, 0)) zq4d_ hb) (below_step zq73_ hb); clear f0 f1 c2 HB; obtain ⟨f0, f1, f2, c2, HB⟩ := n_; clear hb t2))
  go_ret3
  exact ⟨_, zq68_, zq1a_, zq73_⟩
 ·rw [if_neg c4] at H; have r0 : (e5 == 3) = false := beq_eq_false_iff_ne.mpr c4; have r4 : (e5 != 3) = true := bne_iff_ne.mpr c4; replace H := bs_ H; obtain ⟨e0, y1, H⟩ := H; (try dsimp only at H); replace H := bs_ H; obtain ⟨e1, y2, H⟩ := H; (try dsimp only at H); simp only [Option.some.injEq, Prod.mk.injEq] at H; obtain ⟨rfl, rfl, rfl⟩ := H
  go_enter Try.func31, Try.ntmps31
  try go_wp2_with (first | ((with_reducible refine gate_callee (f := 15) rfl ?_); refine gl_ 10 Try.func15 #[.slice A0 l0.length c0, .slice A1 l1.length c1] ?_; (with_reducible refine (spec_ExecRun.calls k _ _ l0 _ _ l1 e2 e3 e4 e5 _ ?_ ?_ ?_ ?_ A3.out).mono ?_); exact zq91_; exact aa0.out; exact zq92_; exact aa1.out; rintro e q0 ⟨L0, L1, rfl, t0, t1, hb⟩; refine ⟨_, rfl, ?_⟩; have n_ := A3_ (Kd.R_lower t0 (below_size zq74_)) (Kd.R_lower t1 (below_size zq74_)) (below_step zq74_ hb); clear HB; obtain ⟨f0, f1, HB⟩ := n_; (try clear hb); (try clear t0); (try clear t1)) | ((with_reducible refine gate_dst (N := 7) rfl ?_); refine bxe_ (N := 7) (cs := #[.slice none 0 0, .slice none 0 0, .int .i64 0, .int .i64 0]) (t := 30) ?_; intro d0 hg q1 C_ hb; have n_ := A6_ (Kd.R_below zq18_ hb) (Kd.R_below zq19_ hb) (below_step zq74_ hb) (C_) ((zqa9_ : w.heap.size ≤ d0)) ((zqa9_ : w.heap.size ≤ d0)); clear f0 f1 HB; obtain ⟨f0, f1, HB, c2, B0, n0⟩ := n_; clear hb C_ hg; obtain ⟨m0, i0, z0⟩ := Kd.R_slice f0.out; subst z0; obtain ⟨j0, j1, j2, j3, k0, k1, k2, k3⟩ := bz4_ c2.out; obtain ⟨m1, i1, z1⟩ := Kd.R_slice f1.out; subst z1))
  have b0 : Aside0 (Kd.R k48 48 ((((q1.setCell ⟨d0, 0, none⟩ (.slice m0 e2.length i0)).setCell ⟨d0, 1, none⟩ (.slice m1 e3.length i1)).setCell ⟨d0, 2, none⟩ (.int .i64 e4)).setCell ⟨d0, 3, none⟩ (.int .i64 e5)) w.heap.size (fun _ => True) (.slice m0 e2.length i0) e2) := ⟨by (with_reducible repeat (first | apply Kd.R_alloc | apply Kd.R_drewN | apply Kd.R_drew)); exact Kd.R_mono (Kd.R_far (p := ⟨d0, 3, none⟩) (Kd.R_far (p := ⟨d0, 2, none⟩) (Kd.R_far (p := ⟨d0, 1, none⟩) (Kd.R_far (p := ⟨d0, 0, none⟩) (Kd.R_types f0.out c2.out (by decide)) (fun _ hk => hk.2) (.slice m0 e2.length i0)) (fun _ hk => hk.2) (.slice m1 e3.length i1)) (fun _ hk => hk.2) (.int .i64 e4)) (fun _ hk => hk.2) (.int .i64 e5)) (fun _ hk => trivial)⟩; have b1 : Aside0 (Kd.R k36 36 ((((q1.setCell ⟨d0, 0, none⟩ (.slice m0 e2.length i0)).setCell ⟨d0, 1, none⟩ (.slice m1 e3.length i1)).setCell ⟨d0, 2, none⟩ (.int .i64 e4)).setCell ⟨d0, 3, none⟩ (.int .i64 e5)) w.heap.size (fun _ => True) (.slice m1 e3.length i1) e3) := ⟨by (with_reducible repeat (first | apply Kd.R_alloc | apply Kd.R_drewN | apply Kd.R_drew)); exact Kd.R_mono (Kd.R_far (p := ⟨d0, 3, none⟩) (Kd.R_far (p := ⟨d0, 2, none⟩) (Kd.R_far (p := ⟨d0, 1, none⟩) (Kd.R_far (p := ⟨d0, 0, none⟩) (Kd.R_types f1.out c2.out (by decide)) (fun _ hk => hk.2) (.slice m0 e2.length i0)) (fun _ hk => hk.2) (.slice m1 e3.length i1)) (fun _ hk => hk.2) (.int .i64 e4)) (fun _ hk => hk.2) (.int .i64 e5)) (fun _ hk => trivial)⟩; have b2 : Aside0 (((((q1.setCell ⟨d0, 0, none⟩ (.slice m0 e2.length i0)).setCell ⟨d0, 1, none⟩ (.slice m1 e3.length i1)).setCell ⟨d0, 2, none⟩ (.int .i64 e4)).setCell ⟨d0, 3, none⟩ (.int .i64 e5)).heap[d0]? = some (.cells #[.slice m0 e2.length i0, .slice m1 e3.length i1, .int .i64 e4, .int .i64 e5] 30 (0, 0))) := ⟨zq4d_⟩; have b3 : Aside0 (Below w.heap.size w ((((q1.setCell ⟨d0, 0, none⟩ (.slice m0 e2.length i0)).setCell ⟨d0, 1, none⟩ (.slice m1 e3.length i1)).setCell ⟨d0, 2, none⟩ (.int .i64 e4)).setCell ⟨d0, 3, none⟩ (.int .i64 e5))) := ⟨zq73_⟩; (try clear f0); (try clear f1); (try clear c2); (try clear HB); generalize ((((q1.setCell ⟨d0, 0, none⟩ (.slice m0 e2.length i0)).setCell ⟨d0, 1, none⟩ (.slice m1 e3.length i1)).setCell ⟨d0, 2, none⟩ (.int .i64 e4)).setCell ⟨d0, 3, none⟩ (.int .i64 e5)) = q2 at b0 b1 b2 b3 ⊢; have f0 := b0; have f1 := b1; have c2 := b2; have HB := b3; clear b0 b1 b2 b3; have n_ := A4_ (Kd.R_drew f0.out) (Kd.R_drew f1.out) (blk_drew c2.out) (below_drew1 HB.out); clear f0 f1 c2 HB; obtain ⟨f0, f1, c2, HB⟩ := n_; refine start_ (n := 11) (S := fun w' => w'.cell? ⟨d0, 0, none⟩ = some (.slice m0 e2.length i0) ∧ w'.cell? ⟨d0, 1, none⟩ = some (.slice m1 e3.length i1) ∧ w'.cell? ⟨d0, 2, none⟩ = some (.int .i64 e4) ∧ w'.cell? ⟨d0, 3, none⟩ = some (.int .i64 e5)) (ds := []) #[false, false, false, false, false, false, false, false, false, false, false] (by kernel_rfl) rfl rfl ⟨(blk_cell c2.out 0).trans rfl, (blk_cell c2.out 1).trans rfl, (blk_cell c2.out 2).trans rfl, (blk_cell c2.out 3).trans rfl⟩ (fun hHeld => ?_); refine with_tabW spec_SerialOne.tab4 spec_SerialOne.bits4 (fun HT_ HW_ => ?_); generalize q2.drew = q3 at f0 f1 c2 HB hHeld ⊢; refine pw_ 0 15 ?_; refine pw_ 4 19 ?_; refine pw_ 6 21 ?_; refine tw_ 2 17 ?_; refine tw_ 5 20 ?_; refine tw_ 7 22 ?_; refine on_ (i := 1) (N := some 16) rfl rfl (one_of HT_.out (by kernel_rfl)) (by decide) (fun K hK => ?_); refine goes_ Try.func73 (by kernel_rfl) rfl #[.slice A0 l0.length c0] (by rfl) rfl rfl zq0_ ?_
  with_reducible refine (spec_l1Copy.calls _ _ l0 e0 _ ?side1 ?side2 y1.out).mono ?_
  (case side1 => exact zq83_); (case side2 => exact aa0.out); rintro e q4 ⟨L2, rfl, t0, hb⟩; refine ⟨_, rfl, ?_⟩; have n_ := A5_ (Kd.R_below zq18_ hb) (Kd.R_below zq19_ hb) (Kd.R_lower t0 (below_size zq73_)) (blk_below (g := d0) (o := .cells #[.slice m0 e2.length i0, .slice m1 e3.length i1, .int .i64 e4, .int .i64 e5] 30 (0, 0)) zq2c_ hb) (below_step zq73_ hb); clear f0 f1 c2 HB; obtain ⟨f0, f1, f2, c2, HB⟩ := n_; (try clear hb); (try clear hb2); (try clear hk); (try clear hi); (try clear t0); obtain ⟨m2, i2, z2⟩ := Kd.R_slice f2.out; (first | subst z2 | (injection z2 with P0 P1 P2; have P3 := P0.symm; have P4 := P2.symm; clear P0 P1 P2; subst P3; subst P4)); refine hK.out _ _ ⟨(blk_cell c2.out 0).trans rfl, (blk_cell c2.out 1).trans rfl, (blk_cell c2.out 2).trans rfl, (blk_cell c2.out 3).trans rfl⟩ (fun hHeld => ?_); clear hK K; refine norm_ (a' := ?_) ?_ ?_
  rotate_left
  ·show Act.put _ (some 16) _ = _; simp only [Act.put, List.setIfInBounds_toArray, List.set_cons_zero, List.set_cons_succ, i64_w, i32_w]; rfl
  refine on_ (i := 3) (N := some 18) rfl rfl (one_of HT_.out (by kernel_rfl)) (by decide) (fun K hK => ?_); refine goes_ Try.func72 (by kernel_rfl) rfl #[.slice m2 e0.length i2, .agg #[.slice m0 e2.length i0, .slice m1 e3.length i1, .int .i64 e4, .int .i64 e5]] (by rfl) rfl rfl zq0_ ?_
  with_reducible refine (spec_l3Do.calls k (fun k_ => some k_ = (.slice m2 e0.length i2 : Value).ownBlock) (.slice m2 e0.length i2) e0 _ _ e2 _ _ e3 e4 e5 e1 w _ ?side1 ?side2 ?side3 ?side4 ?side5 ?side6 y2.out).mono ?_
  (case side1 => exact zq73_); (case side2 => exact Kd.R_tight rfl f2.out); (case side3 => exact Kd.C_kept_own ((Kd.R_apart' f0.out (Kd.R_typed f2.out) (by decide))) (fun k_ az hs_ => (az.2) hs_)); (case side4 => exact zq50_); (case side5 => exact Kd.C_kept_own ((Kd.R_apart' f1.out (Kd.R_typed f2.out) (by decide))) (fun k_ az hs_ => (az.2) hs_)); (case side6 => exact zq51_); rintro e q5 ⟨L3, rfl, t0, hb, ay⟩; refine ⟨_, rfl, ?_⟩; have n_ := A5_ (Kd.R_mono (ok' := fun k_ => True) (Kd.R_keptB ((Kd.R_apart' f0.out (Kd.R_typed f2.out) (by decide))) ay (fun k_ az hs_ => (az.2) hs_)) (fun k_ az => trivial)) (Kd.R_mono (ok' := fun k_ => True) (Kd.R_keptB ((Kd.R_apart' f1.out (Kd.R_typed f2.out) (by decide))) ay (fun k_ az hs_ => (az.2) hs_)) (fun k_ az => trivial)) (blk_kept zq2c_ ay (fun hs_ => (fun e_ => (Kd.R_ne f2.out c2.out (by decide)) e_) hs_)) (Kd.R_mono (ok' := fun k_ => True) t0 (fun k_ az => trivial)) (hb); clear f0 f1 c2 HB f2; obtain ⟨f0, f1, c2, f3, HB⟩ := n_; (try clear hb); (try clear ay); (try clear t0); refine hK.out _ _ ⟨(blk_cell c2.out 0).trans rfl, (blk_cell c2.out 1).trans rfl, (blk_cell c2.out 2).trans rfl, (blk_cell c2.out 3).trans rfl⟩ (fun hHeld => ?_); clear hK K; refine norm_ (a' := ?_) ?_ ?_
  rotate_left
  ·show Act.put _ (some 18) _ = _; simp only [Act.put, List.setIfInBounds_toArray, List.set_cons_zero, List.set_cons_succ, i64_w, i32_w]; rfl
  refine pw_ 8 4 ?_; refine pw_ 9 5 ?_; refine pw_ 10 6 ?_; refine done_ (done_of HT_.out (by kernel_rfl)) ?_
  try go_wp2
  go_ret3
  exact ⟨_, zq68_, zq1b_, zq73_⟩

/-! ### impl_SerialOne: function 34 -/
def impl_SerialOne.f (k : Nat) (l0 : List (S46)) (l1 : List (S34)) : Option ((List (S46)) × Int × Int) := (impl_ExecRun.f k l0 l1).bind fun bt333 => (if bt333.2.2.2 = 3 then (some (([] : List (S46)), 0, 3)) else ((impl_ExecDo.f k l0 bt333.1 bt333.2.1 bt333.2.2.1 bt333.2.2.2).bind fun t342 => (some (t342, bt333.2.2.1, bt333.2.2.2))))
theorem impl_SerialOne.mono : ∀ a0 a1 k, LeO (impl_SerialOne.f k a0 a1) (impl_SerialOne.f (k + 1) a0 a1) := by
 intro a0 a1 k
 unfold impl_SerialOne.f
 repeat' first
   | (with_reducible exact impl_ExecDo.mono _ _ _ _ _ _)
   | (with_reducible exact impl_ExecRun.mono _ _ _)
   | (with_reducible exact LeO.refl _)
   | (with_reducible exact LeO.none _)
   | (with_reducible refine LeO.ite ?_ ?_)
   | (with_reducible refine LeO.bind ?_ (fun _ => ?_))
   | exact impl_ExecDo.mono _ _ _ _ _ _
   | exact impl_ExecRun.mono _ _ _
   | exact LeO.none _
   | refine LeO.ite ?_ ?_
   | refine LeO.bind ?_ (fun _ => ?_)
def impl_SerialOne.T4 : Bool × List (List Nat × List Nat) := (true, [([], []), ([], []), ([0, 1], [0, 1]), ([], []), ([3], [3]), ([], []), ([5], [5]), ([2, 2, 0, 1, 2], [2]), ([4, 7, 0, 1, 2, 3, 4, 7], [4]), ([6, 8, 0, 1, 2, 3, 4, 5, 6, 7, 8], [6])])
def impl_SerialOne.B4 : List Nat := [0, 0, 3, 0, 8, 0, 32, 7, 159, 511]
theorem impl_SerialOne.tab4 : rtab .any (opsOf Try.f34 4) = impl_SerialOne.T4 := by kernel_rfl
theorem impl_SerialOne.bits4 : waitsOk impl_SerialOne.T4.2 impl_SerialOne.B4 = true := by kernel_rfl
set_option maxHeartbeats 8000000 in
set_option maxRecDepth 100000 in
theorem impl_SerialOne.calls (k : Nat) (A0 : Option Addr) (c0 : Nat) (l0 : List (S46)) (A1 : Option Addr) (c1 : Nat) (l1 : List (S34)) (r1 : List (S46)) (r2 : Int) (r3 : Int) (w : World) (V0 : Kd.C k46 w A0 l0.length l0) (Z0 : l0.length ≤ c0) (V1 : Kd.C k34 w A1 l1.length l1) (Z1 : l1.length ≤ c1) (h : impl_SerialOne.f k l0 l1 = some (r1, r2, r3)) :
  Calls Try.prog 34 #[.slice A0 l0.length c0, .slice A1 l1.length c1] w fun e w' => ∃ v0_ : Value, e = .returned (.tuple #[v0_, .int .i64 r2, .int .i64 r3]) ∧ Kd.R k46 46 w' w.heap.size (fun _ => True) v0_ r1 ∧ Below w.heap.size w w' := by
 have aq0 := Try.underlying30; have U0 := Aside0.mk V0; have aa0 := Aside0.mk Z0; clear V0 Z0; have U1 := Aside0.mk V1; have aa1 := Aside0.mk Z1; clear V1 Z1; have HB := Aside0.mk (Below.refl w.heap.size w); have H : ((impl_ExecRun.f k l0 l1).bind fun F0 => (if F0.2.2.2 = 3 then (some (([] : List (S46)), 0, 3)) else ((impl_ExecDo.f k l0 F0.1 F0.2.1 F0.2.2.1 F0.2.2.2).bind fun e0 => (some (e0, F0.2.2.1, F0.2.2.2))))) = some (r1, r2, r3) := h; clear h; replace H := Option.bind_eq_some_iff.mp H; obtain ⟨⟨e1, e2, e3, e4⟩, y0, H⟩ := H; (try dsimp only at H); have A3 := Aside0.mk y0; clear y0; by_cases c4 : e4 = 3
 ·rw [if_pos c4] at H; have r0 : (e4 == 3) = true := beq_iff_eq.mpr c4; have r4 : (e4 != 3) = false := bne_eq_false_iff_eq.mpr c4; clear c4; simp only [Option.some.injEq, Prod.mk.injEq] at H; obtain ⟨rfl, rfl, rfl⟩ := H
  go_enter Try.func34, Try.ntmps34
  go_wp2_with (first | ((with_reducible refine gate_callee (f := 13) rfl ?_); refine gl_ 10 Try.func13 #[.slice A0 l0.length c0, .slice A1 l1.length c1] ?_; (with_reducible refine (impl_ExecRun.calls k _ _ l0 _ _ l1 e1 e2 e3 e4 _ ?_ ?_ ?_ ?_ A3.out).mono ?_); exact zq91_; exact aa0.out; exact zq92_; exact aa1.out; rintro e w5 ⟨L0, L1, rfl, t0, t1, hb⟩; refine ⟨_, rfl, ?_⟩; have n_ := A3_ (Kd.R_lower t0 (below_size zq74_)) (Kd.R_lower t1 (below_size zq74_)) (below_step zq74_ hb); clear HB; obtain ⟨f0, f1, HB⟩ := n_; (try clear hb); (try clear t0); (try clear t1)) | ((with_reducible refine gate_dst (N := 7) rfl ?_); refine bxe_ (N := 7) (cs := #[.slice none 0 0, .slice none 0 0, .int .i64 0, .int .i64 0]) (t := 30) ?_; intro d0 hg w6 C_ hb; have n_ := A6_ (Kd.R_below zq18_ hb) (Kd.R_below zq19_ hb) (below_step zq74_ hb) (C_) ((zqa9_ : w.heap.size ≤ d0)) ((zqa9_ : w.heap.size ≤ d0)); clear f0 f1 HB; obtain ⟨f0, f1, HB, c2, B0, n0⟩ := n_; clear hb C_ hg; obtain ⟨m0, i0, z0⟩ := Kd.R_slice f0.out; subst z0; obtain ⟨j0, j1, j2, j3, k0, k1, k2, k3⟩ := bz4_ c2.out; obtain ⟨m1, i1, z1⟩ := Kd.R_slice f1.out; subst z1))
  go_ret3
  exact ⟨_, zq68_, zq65_, zq73_⟩
 ·rw [if_neg c4] at H; have r0 : (e4 == 3) = false := beq_eq_false_iff_ne.mpr c4; have r4 : (e4 != 3) = true := bne_iff_ne.mpr c4; replace H := bs_ H; obtain ⟨e0, y1, H⟩ := H; (try dsimp only at H); simp only [Option.some.injEq, Prod.mk.injEq] at H; obtain ⟨rfl, rfl, rfl⟩ := H
  go_enter Try.func34, Try.ntmps34
  try go_wp2_with (first | ((with_reducible refine gate_callee (f := 13) rfl ?_); refine gl_ 10 Try.func13 #[.slice A0 l0.length c0, .slice A1 l1.length c1] ?_; (with_reducible refine (impl_ExecRun.calls k _ _ l0 _ _ l1 e1 e2 e3 e4 _ ?_ ?_ ?_ ?_ A3.out).mono ?_); exact zq91_; exact aa0.out; exact zq92_; exact aa1.out; rintro e q0 ⟨L0, L1, rfl, t0, t1, hb⟩; refine ⟨_, rfl, ?_⟩; have n_ := A3_ (Kd.R_lower t0 (below_size zq74_)) (Kd.R_lower t1 (below_size zq74_)) (below_step zq74_ hb); clear HB; obtain ⟨f0, f1, HB⟩ := n_; (try clear hb); (try clear t0); (try clear t1)) | ((with_reducible refine gate_dst (N := 7) rfl ?_); refine bxe_ (N := 7) (cs := #[.slice none 0 0, .slice none 0 0, .int .i64 0, .int .i64 0]) (t := 30) ?_; intro d0 hg q1 C_ hb; have n_ := A6_ (Kd.R_below zq18_ hb) (Kd.R_below zq19_ hb) (below_step zq74_ hb) (C_) ((zqa9_ : w.heap.size ≤ d0)) ((zqa9_ : w.heap.size ≤ d0)); clear f0 f1 HB; obtain ⟨f0, f1, HB, c2, B0, n0⟩ := n_; clear hb C_ hg; obtain ⟨m0, i0, z0⟩ := Kd.R_slice f0.out; subst z0; obtain ⟨j0, j1, j2, j3, k0, k1, k2, k3⟩ := bz4_ c2.out; obtain ⟨m1, i1, z1⟩ := Kd.R_slice f1.out; subst z1))
  have b0 : Aside0 (Kd.R k48 48 ((((q1.setCell ⟨d0, 0, none⟩ (.slice m0 e1.length i0)).setCell ⟨d0, 1, none⟩ (.slice m1 e2.length i1)).setCell ⟨d0, 2, none⟩ (.int .i64 e3)).setCell ⟨d0, 3, none⟩ (.int .i64 e4)) w.heap.size (fun _ => True) (.slice m0 e1.length i0) e1) := ⟨by (with_reducible repeat (first | apply Kd.R_alloc | apply Kd.R_drewN | apply Kd.R_drew)); exact Kd.R_mono (Kd.R_far (p := ⟨d0, 3, none⟩) (Kd.R_far (p := ⟨d0, 2, none⟩) (Kd.R_far (p := ⟨d0, 1, none⟩) (Kd.R_far (p := ⟨d0, 0, none⟩) (Kd.R_types f0.out c2.out (by decide)) (fun _ hk => hk.2) (.slice m0 e1.length i0)) (fun _ hk => hk.2) (.slice m1 e2.length i1)) (fun _ hk => hk.2) (.int .i64 e3)) (fun _ hk => hk.2) (.int .i64 e4)) (fun _ hk => trivial)⟩; have b1 : Aside0 (Kd.R k36 36 ((((q1.setCell ⟨d0, 0, none⟩ (.slice m0 e1.length i0)).setCell ⟨d0, 1, none⟩ (.slice m1 e2.length i1)).setCell ⟨d0, 2, none⟩ (.int .i64 e3)).setCell ⟨d0, 3, none⟩ (.int .i64 e4)) w.heap.size (fun _ => True) (.slice m1 e2.length i1) e2) := ⟨by (with_reducible repeat (first | apply Kd.R_alloc | apply Kd.R_drewN | apply Kd.R_drew)); exact Kd.R_mono (Kd.R_far (p := ⟨d0, 3, none⟩) (Kd.R_far (p := ⟨d0, 2, none⟩) (Kd.R_far (p := ⟨d0, 1, none⟩) (Kd.R_far (p := ⟨d0, 0, none⟩) (Kd.R_types f1.out c2.out (by decide)) (fun _ hk => hk.2) (.slice m0 e1.length i0)) (fun _ hk => hk.2) (.slice m1 e2.length i1)) (fun _ hk => hk.2) (.int .i64 e3)) (fun _ hk => hk.2) (.int .i64 e4)) (fun _ hk => trivial)⟩; have b2 : Aside0 (((((q1.setCell ⟨d0, 0, none⟩ (.slice m0 e1.length i0)).setCell ⟨d0, 1, none⟩ (.slice m1 e2.length i1)).setCell ⟨d0, 2, none⟩ (.int .i64 e3)).setCell ⟨d0, 3, none⟩ (.int .i64 e4)).heap[d0]? = some (.cells #[.slice m0 e1.length i0, .slice m1 e2.length i1, .int .i64 e3, .int .i64 e4] 30 (0, 0))) := ⟨by (with_reducible repeat (first | refine blk_drewN ?_ _ | refine blk_drew ?_ | refine blk_alloc ?_ _)); refine blk_put (cs := #[.slice m0 e1.length i0, .slice m1 e2.length i1, .int .i64 e3, .int .i64 0]) ?_ 3 _ rfl; (with_reducible repeat (first | refine blk_drewN ?_ _ | refine blk_drew ?_ | refine blk_alloc ?_ _)); refine blk_put (cs := #[.slice m0 e1.length i0, .slice m1 e2.length i1, .int .i64 0, .int .i64 0]) ?_ 2 _ rfl; (with_reducible repeat (first | refine blk_drewN ?_ _ | refine blk_drew ?_ | refine blk_alloc ?_ _)); refine blk_put (cs := #[.slice m0 e1.length i0, .slice none 0 0, .int .i64 0, .int .i64 0]) ?_ 1 _ rfl; (with_reducible repeat (first | refine blk_drewN ?_ _ | refine blk_drew ?_ | refine blk_alloc ?_ _)); refine blk_put (cs := #[.slice none 0 0, .slice none 0 0, .int .i64 0, .int .i64 0]) ?_ 0 _ rfl; (with_reducible repeat (first | refine blk_drewN ?_ _ | refine blk_drew ?_ | refine blk_alloc ?_ _)); exact c2.out⟩; have b3 : Aside0 (Below w.heap.size w ((((q1.setCell ⟨d0, 0, none⟩ (.slice m0 e1.length i0)).setCell ⟨d0, 1, none⟩ (.slice m1 e2.length i1)).setCell ⟨d0, 2, none⟩ (.int .i64 e3)).setCell ⟨d0, 3, none⟩ (.int .i64 e4))) := ⟨zq73_⟩; (try clear f0); (try clear f1); (try clear c2); (try clear HB); generalize ((((q1.setCell ⟨d0, 0, none⟩ (.slice m0 e1.length i0)).setCell ⟨d0, 1, none⟩ (.slice m1 e2.length i1)).setCell ⟨d0, 2, none⟩ (.int .i64 e3)).setCell ⟨d0, 3, none⟩ (.int .i64 e4)) = q2 at b0 b1 b2 b3 ⊢; have f0 := b0; have f1 := b1; have c2 := b2; have HB := b3; clear b0 b1 b2 b3; have n_ := A4_ (Kd.R_drew f0.out) (Kd.R_drew f1.out) (blk_drew c2.out) (below_drew1 HB.out); clear f0 f1 c2 HB; obtain ⟨f0, f1, c2, HB⟩ := n_
  refine start_ (n := 10) (S := fun w' => w'.cell? ⟨d0, 0, none⟩ = some (.slice m0 e1.length i0) ∧ w'.cell? ⟨d0, 1, none⟩ = some (.slice m1 e2.length i1) ∧ w'.cell? ⟨d0, 2, none⟩ = some (.int .i64 e3) ∧ w'.cell? ⟨d0, 3, none⟩ = some (.int .i64 e4)) (ds := []) #[false, false, false, false, false, false, false, false, false, false] (by kernel_rfl) rfl rfl ⟨(blk_cell c2.out 0).trans rfl, (blk_cell c2.out 1).trans rfl, (blk_cell c2.out 2).trans rfl, (blk_cell c2.out 3).trans rfl⟩ (fun hHeld => ?_); refine with_tabW impl_SerialOne.tab4 impl_SerialOne.bits4 (fun HT_ HW_ => ?_); generalize q2.drew = q3 at f0 f1 c2 HB hHeld ⊢; refine pw_ 0 14 ?_; refine pw_ 3 17 ?_; refine pw_ 5 19 ?_; refine tw_ 1 15 ?_; refine tw_ 4 18 ?_; refine tw_ 6 20 ?_; refine on_ (i := 2) (N := some 16) rfl rfl (one_of HT_.out (by kernel_rfl)) (by decide) (fun K hK => ?_); refine goes_ Try.func17 (by kernel_rfl) rfl #[.slice A0 l0.length c0, .agg #[.slice m0 e1.length i0, .slice m1 e2.length i1, .int .i64 e3, .int .i64 e4]] (by rfl) rfl rfl zq0_ ?_
  with_reducible refine (impl_ExecDo.calls k _ _ l0 _ _ e1 _ _ e2 e3 e4 e0 _ ?side1 ?side2 ?side3 ?side4 ?side5 ?side6 y1.out).mono ?_
  (case side1 => exact zq83_); (case side2 => exact aa0.out); (case side3 => exact zq86_); (case side4 => exact zq50_); (case side5 => exact zq87_); (case side6 => exact zq51_); rintro e q4 ⟨L2, rfl, t0, hb⟩; refine ⟨_, rfl, ?_⟩; have n_ := A5_ (Kd.R_below zq18_ hb) (Kd.R_below zq19_ hb) (Kd.R_lower t0 (below_size zq73_)) (blk_below (g := d0) (o := .cells #[.slice m0 e1.length i0, .slice m1 e2.length i1, .int .i64 e3, .int .i64 e4] 30 (0, 0)) zq2c_ hb) (below_step zq73_ hb); clear f0 f1 c2 HB; obtain ⟨f0, f1, f2, c2, HB⟩ := n_; (try clear hb); (try clear hb2); (try clear hk); (try clear hi); (try clear t0); refine hK.out _ _ ⟨(blk_cell c2.out 0).trans rfl, (blk_cell c2.out 1).trans rfl, (blk_cell c2.out 2).trans rfl, (blk_cell c2.out 3).trans rfl⟩ (fun hHeld => ?_); clear hK K; refine norm_ (a' := ?_) ?_ ?_
  rotate_left
  ·show Act.put _ (some 16) _ = _; simp only [Act.put, List.setIfInBounds_toArray, List.set_cons_zero, List.set_cons_succ, i64_w, i32_w]; rfl
  refine pw_ 7 4 ?_; refine pw_ 8 5 ?_; refine pw_ 9 6 ?_; refine done_ (done_of HT_.out (by kernel_rfl)) ?_
  try go_wp2
  go_ret3
  exact ⟨_, zq68_, zq1a_, zq73_⟩

/-- A state of type 110 at block g of W; what its slices lead to came in by w0. -/
def IsS110 (w0 W : World) (g : Nat) (f0 : List Int) (f1 : Int) : Prop := ∃ A0 c0, W.heap[g]? = some (.cells #[.slice A0 f0.length c0, .int .i64 f1] 110 (0, 0)) ∧ w0.heap.size ≤ g ∧ Kd.C (Kd.int .u8) w0 A0 f0.length f0
theorem IsS110.grown {w0 W : World} {g : Nat} {f0 : List Int} {f1 : Int} {W1 : World} {bS : Option Nat} (h : IsS110 w0 W g f0 f1) (hw : W.grownBy W1 bS) (bH : some g ≠ bS) : IsS110 w0 W1 g f0 f1 := by
 obtain ⟨A0, c0, hb, hg, V0⟩ := h
 exact ⟨A0, c0, blk_grown hb hw bH, hg, V0⟩
theorem IsS110.own_neN {w0 W : World} {g : Nat} {f0 : List Int} {f1 : Int} {α : Type} {d : Kd α} {e : Nat} {aL : Nat} {ok : Nat → Prop} {v : Value} {xs : List α} (h : IsS110 w0 W g f0 f1) (ho : Kd.N d e W aL ok v xs) (ht : e ≠ 110) : some g ≠ v.ownBlock := by
 obtain ⟨A0, c0, hb, hg, V0⟩ := h
 exact Kd.N_ne ho hb ht
theorem IsS110.fresh {w0 W : World} {g : Nat} {f0 : List Int} {f1 : Int} (h : IsS110 w0 W g f0 f1) : ∀ k, W.heap.size ≤ k → k ≠ g := by
 obtain ⟨A0, c0, hb, hg, V0⟩ := h
 exact Kd.freshB hb
theorem IsS110.kept {w0 W : World} {g : Nat} {f0 : List Int} {f1 : Int} {W1 : World} {S : Nat → Prop} (h : IsS110 w0 W g f0 f1) (hk : Kept W W1 S) (bH : ¬ S g) : IsS110 w0 W1 g f0 f1 := by
 obtain ⟨A0, c0, hb, hg, V0⟩ := h
 exact ⟨A0, c0, blk_kept hb hk bH, hg, V0⟩
theorem IsS110.below {w0 W : World} {g : Nat} {f0 : List Int} {f1 : Int} {W1 : World} (h : IsS110 w0 W g f0 f1) (hw : Below W.heap.size W W1) : IsS110 w0 W1 g f0 f1 := h.grown (grown_of_below hw none) (by simp)
theorem IsS110.alloc {w0 W : World} {g : Nat} {f0 : List Int} {f1 : Int} (h : IsS110 w0 W g f0 f1) (o : Obj) : IsS110 w0 (W.alloc o) g f0 f1 := h.below (below_alloc (Below.refl _ _) o)
theorem IsS110.drewN {w0 W : World} {g : Nat} {f0 : List Int} {f1 : Int} (h : IsS110 w0 W g f0 f1) (m : Nat) : IsS110 w0 (W.drewN m) g f0 f1 := h
theorem IsS110.drew {w0 W : World} {g : Nat} {f0 : List Int} {f1 : Int} (h : IsS110 w0 W g f0 f1) : IsS110 w0 W.drew g f0 f1 := h
theorem IsS110.at_ {w0 W : World} {g : Nat} {f0 : List Int} {f1 : Int} {w' : World} {m : Nat} (hq : W.drewN m = w') (h : IsS110 w0 W g f0 f1) : IsS110 w0 w' g f0 f1 := by subst hq; exact IsS110.drewN h m
theorem IsS110.apart {w0 W : World} {g : Nat} {f0 : List Int} {f1 : Int} {α : Type} {d : Kd α} {e : Nat} {aL : Nat} {ok : Nat → Prop} {v : Value} {xs : List α} (h : IsS110 w0 W g f0 f1) (ho : d.R e W aL ok v xs) (ht : ∀ q, q ∈ e :: d.E → q ≠ 110) : d.R e W aL (fun k => ok k ∧ k ≠ g) v xs := by
 obtain ⟨A0, c0, hb, hg, V0⟩ := h
 exact Kd.R_types ho hb ht
theorem IsS110.own_ne {w0 W : World} {g : Nat} {f0 : List Int} {f1 : Int} {α : Type} {d : Kd α} {e : Nat} {aL : Nat} {ok : Nat → Prop} {v : Value} {xs : List α} (h : IsS110 w0 W g f0 f1) (ho : d.R e W aL ok v xs) (ht : e ≠ 110) : some g ≠ v.ownBlock := by
 obtain ⟨A0, c0, hb, hg, V0⟩ := h
 exact Kd.R_ne ho hb ht
theorem IsS110.apartQ {w0 W : World} {g : Nat} {f0 : List Int} {f1 : Int} {α : Type} {d : Kd α} {e : Nat} {aL : Nat} {ok : Nat → Prop} {v : Value} {xs : List α} (h : IsS110 w0 W g f0 f1) (ho : d.Q e W aL ok v xs) (ht : ∀ q, q ∈ e :: d.E → q ≠ 110) : d.Q e W aL (fun k => ok k ∧ k ≠ g) v xs := by
 obtain ⟨A0, c0, hb, hg, V0⟩ := h
 exact Kd.Q_types ho hb ht
theorem IsS110.own_neQ {w0 W : World} {g : Nat} {f0 : List Int} {f1 : Int} {α : Type} {d : Kd α} {e : Nat} {aL : Nat} {ok : Nat → Prop} {v : Value} {xs : List α} (h : IsS110 w0 W g f0 f1) (ho : d.Q e W aL ok v xs) (ht : e ≠ 110) : some g ≠ v.ownBlock := by
 obtain ⟨A0, c0, hb, hg, V0⟩ := h
 exact Kd.Q_ne ho hb ht
theorem IsS110.apartS {w0 W : World} {g : Nat} {f0 : List Int} {f1 : Int} {α : Type} {d : Kd α} {e : Nat} {aL : Nat} {ok : Nat → Prop} {v : Value} {xs : List α} (h : IsS110 w0 W g f0 f1) (ho : d.S e W aL ok v xs) (ht : ∀ q, q ∈ e :: d.E → q ≠ 110) : d.S e W aL (fun k => ok k ∧ k ≠ g) v xs := by
 obtain ⟨A0, c0, hb, hg, V0⟩ := h
 exact Kd.S_types ho hb ht
theorem IsS110.own_neS {w0 W : World} {g : Nat} {f0 : List Int} {f1 : Int} {α : Type} {d : Kd α} {e : Nat} {aL : Nat} {ok : Nat → Prop} {v : Value} {xs : List α} (h : IsS110 w0 W g f0 f1) (ho : d.S e W aL ok v xs) (ht : e ≠ 110) : some g ≠ v.ownBlock := by
 obtain ⟨A0, c0, hb, hg, V0⟩ := h
 exact Kd.S_ne ho hb ht
theorem IsS110.lt {w0 W : World} {g : Nat} {f0 : List Int} {f1 : Int} (h : IsS110 w0 W g f0 f1) : g < W.heap.size := by
 obtain ⟨A0, c0, hb, hg, V0⟩ := h
 exact blk_lt hb
theorem IsS110.ge {w0 W : World} {g : Nat} {f0 : List Int} {f1 : Int} (h : IsS110 w0 W g f0 f1) : w0.heap.size ≤ g := by
 obtain ⟨A0, c0, hb, hg, V0⟩ := h
 exact hg
theorem IsS110.ne_blk {w0 W : World} {g : Nat} {f0 : List Int} {f1 : Int} {a : Nat} {cs : Array Value} {t : TypeId} {fr : Nat × Nat} (h : IsS110 w0 W g f0 f1) (be0 : W.heap[a]? = some (.cells cs t fr)) (ht : t ≠ 110) : g ≠ a := by
 obtain ⟨A0, c0, hb, hg, V0⟩ := h
 rintro rfl
 rw [hb] at be0
 injection be0 with be0
 injection be0 with _ ca0
 exact ht ca0.symm
theorem IsS110.far {w0 W : World} {g : Nat} {f0 : List Int} {f1 : Int} {p : Addr} (h : IsS110 w0 W g f0 f1) (bH : g ≠ p.block) (u : Value) : IsS110 w0 (W.setCell p u) g f0 f1 := by
 obtain ⟨A0, c0, hb, hg, V0⟩ := h
 exact ⟨A0, c0, blk_far hb bH u, hg, V0⟩
theorem cellS110_0 {W : World} {g : Nat} {A0 : Option Addr} {c0 : Nat} {f0 : List Int} {f1 : Int} (h : W.heap[g]? = some (.cells #[.slice A0 f0.length c0, .int .i64 f1] 110 (0, 0))) : W.cell? ⟨g, 0, none⟩ = some (.slice A0 f0.length c0) := (blk_cell h 0).trans rfl
theorem cellS110_1 {W : World} {g : Nat} {A0 : Option Addr} {c0 : Nat} {f0 : List Int} {f1 : Int} (h : W.heap[g]? = some (.cells #[.slice A0 f0.length c0, .int .i64 f1] 110 (0, 0))) : W.cell? ⟨g, 1, none⟩ = some (.int .i64 f1) := (blk_cell h 1).trans rfl
theorem IsS110.set_1 {w0 W : World} {g : Nat} {f0 : List Int} {f1 : Int} (h : IsS110 w0 W g f0 f1) (x : Int) : IsS110 w0 (W.setCell ⟨g, 1, none⟩ (.int .i64 x)) g f0 x := by
 obtain ⟨A0, c0, hb, hg, V0⟩ := h
 exact ⟨A0, c0, by simpa using blk_set hb 1 (.int .i64 x), hg, V0⟩
theorem IsS110.new (w0 W : World) (A0 : Option Addr) (c0 : Nat) (f0 : List Int) (f1 : Int) (hB : Below w0.heap.size w0 W) (hr0 : Kd.C (Kd.int .u8) w0 A0 f0.length f0) : IsS110 w0 (W.alloc (.cells #[.slice A0 f0.length c0, .int .i64 f1] 110)) W.heap.size f0 f1 := ⟨A0, c0, by simpa using heap_alloc_new W _, hB.size, hr0⟩

/-! ### spec_l15Open: function 57 -/
def spec_l15Open.f (l0 : List Int) : Option (List Int × Int) := if (l0.length : Int) > 2000 then (if 2000 ≤ (l0.length : Int) then (some (l0.take 2000, 0)) else (none)) else (some (l0, 0))
set_option maxHeartbeats 8000000 in
set_option maxRecDepth 100000 in
theorem spec_l15Open.calls (A0 : Option Addr) (c0 : Nat) (l0 : List Int) (r1 : List Int) (r2 : Int) (w0 w : World) (hB : Below w0.heap.size w0 w) (V0 : Kd.C (Kd.int .u8) w0 A0 l0.length l0) (Z0 : l0.length ≤ c0) (h : spec_l15Open.f l0 = some (r1, r2)) :
  Calls Try.prog 57 #[.slice A0 l0.length c0] w fun e w' => ∃ g_ : Nat, e = .returned (.pointer (some ⟨g_, 0, none⟩)) ∧ IsS110 w0 w' g_ r1 r2 ∧ Below w0.heap.size w0 w' ∧ Below w.heap.size w w' := by
 have aq0 := Try.underlying110; have U0 := Aside0.mk V0; have aa0 := Aside0.mk Z0; clear V0 Z0; have ba := Aside0.mk (Below.refl w.heap.size w); have aR0 := Aside0.mk hB.size; have HB := Aside0.mk hB; clear hB; have H : (if (l0.length : Int) > 2000 then (if 2000 ≤ (l0.length : Int) then (some (l0.take 2000, 0)) else (none)) else (some (l0, 0))) = some (r1, r2) := h; clear h; by_cases c2 : (l0.length : Int) > 2000
 ·rw [if_pos c2] at H; have r0 : decide (2000 < (l0.length : Int)) = true := decide_eq_true c2; have r3 : decide (2000 < l0.length) = true := decide_eq_true (by omega); clear c2; replace H := ifp_ H; obtain ⟨c3, H⟩ := H; have r4 := eq_true c3; have r5 : decide (2000 ≤ (l0.length : Int)) = true := decide_eq_true c3; clear c3; simp only [Option.some.injEq, Prod.mk.injEq] at H; obtain ⟨rfl, rfl⟩ := H; obtain ⟨cb0, bs0, _, bz0, _⟩ := info_parts info5; obtain ⟨bT0, bI0, bU0⟩ := print_take_of (P := Try.prog) (Value.int .u8) 0 22 5 .i64 Try.underlying22 bs0 bz0 A0 c0 l0 2000 (by omega) (of_decide_eq_true zq64_) aa0.out; have U1 := Aside0.mk (Kd.C_of_reads (h1 := fun _ => rfl) (bI0 _ (Kd.reads_of_C U0.out))); have aa1 := Aside0.mk bU0; clear bI0 bU0 bs0 bz0
  go_enter Try.func57, Try.ntmps57
  go_wp2_with (first | ((with_reducible refine gate_dst (N := 10) rfl ?_); refine bxe_ (N := 10) (cs := #[.slice A0 (l0.take 2000).length c0, .int .i64 0]) (t := 110) ?_; intro d0 hg w5 C_ hb; have n_ := A5_ (below_step ba.out hb) (below_step zq74_ hb) (C_) ((by rw [hg]; exact (below_size zq7f_) : w.heap.size ≤ d0)) ((Nat.le_trans aR0.out (by rw [hg]; exact (below_size zq7f_) : w.heap.size ≤ d0) : w0.heap.size ≤ d0)); clear ba HB; obtain ⟨ba, HB, c1, B0, n0⟩ := n_; clear hb C_ hg))
  go_ret
  exact ⟨_, rfl, (show IsS110 w0 _ d0 (l0.take 2000) 0 from ⟨_, _, zq29_, n0.out, U1.out⟩), zq73_, zq7e_⟩
 ·rw [if_neg c2] at H; have r0 : decide (2000 < (l0.length : Int)) = false := decide_eq_false c2; have r3 : decide (2000 < l0.length) = false := decide_eq_false (by omega); clear c2; simp only [Option.some.injEq, Prod.mk.injEq] at H; obtain ⟨rfl, rfl⟩ := H
  go_enter Try.func57, Try.ntmps57
  go_wp2_with (first | ((with_reducible refine gate_dst (N := 10) rfl ?_); refine bxe_ (N := 10) (cs := #[.slice A0 l0.length c0, .int .i64 0]) (t := 110) ?_; intro d0 hg w6 C_ hb; have n_ := A5_ (below_step ba.out hb) (below_step zq74_ hb) (C_) ((by rw [hg]; exact (below_size zq7f_) : w.heap.size ≤ d0)) ((Nat.le_trans aR0.out (by rw [hg]; exact (below_size zq7f_) : w.heap.size ≤ d0) : w0.heap.size ≤ d0)); clear ba HB; obtain ⟨ba, HB, c1, B0, n0⟩ := n_; clear hb C_ hg))
  go_ret
  exact ⟨_, rfl, (show IsS110 w0 _ d0 l0 0 from ⟨_, _, zq29_, n0.out, U0.out⟩), zq73_, zq7e_⟩

/-! ### spec_l15Rd_pick: function 91 -/
def spec_l15Rd_pick.j0 : Nat → Int → Bool → List Int → Int → Option (Int × Int)
 | 0, _, _, _, _ => none
 | k + 1, x1, x24, x1000, x1001 => if x24 = true then (some (0, x1001)) else (if (wrap64 (x1001 - 1)) < (x1000.length : Int) then (if 0 ≤ (wrap64 (x1001 - 1)) then (if x1 = 0 then (none) else (some (Int.tmod (wrap64 (rd x1000 (wrap64 (x1001 - 1)))) x1, x1001))) else (none)) else (if (x1000.length : Int) = 0 then (none) else (if 0 ≤ (Int.tmod (wrap64 (x1001 - 1)) (x1000.length : Int)) then (if (Int.tmod (wrap64 (x1001 - 1)) (x1000.length : Int)) < (x1000.length : Int) then (if 0 ≤ (Int.tmod (wrap64 ((wrap64 ((wrap64 (x1001 - 1)) * 7)) + 3)) (x1000.length : Int)) then (if (Int.tmod (wrap64 ((wrap64 ((wrap64 (x1001 - 1)) * 7)) + 3)) (x1000.length : Int)) < (x1000.length : Int) then (if x1 = 0 then (none) else (some (Int.tmod (Go.bits .xor .i64 (wrap64 ((wrap64 ((wrap64 ((wrap64 ((wrap64 (rd x1000 (Int.tmod (wrap64 (x1001 - 1)) (x1000.length : Int)))) * 131)) + (wrap64 ((wrap64 (rd x1000 (Int.tmod (wrap64 ((wrap64 ((wrap64 (x1001 - 1)) * 7)) + 3)) (x1000.length : Int)))) * 1117)))) + (wrap64 ((wrap64 (x1001 - 1)) * 29)))) + (wrap64 ((wrap64 (Int.tdiv (wrap64 (x1001 - 1)) (x1000.length : Int))) * 53)))) (wrap64 (Int.tdiv (wrap64 ((wrap64 ((wrap64 ((wrap64 ((wrap64 (rd x1000 (Int.tmod (wrap64 (x1001 - 1)) (x1000.length : Int)))) * 131)) + (wrap64 ((wrap64 (rd x1000 (Int.tmod (wrap64 ((wrap64 ((wrap64 (x1001 - 1)) * 7)) + 3)) (x1000.length : Int)))) * 1117)))) + (wrap64 ((wrap64 (x1001 - 1)) * 29)))) + (wrap64 ((wrap64 (Int.tdiv (wrap64 (x1001 - 1)) (x1000.length : Int))) * 53)))) 64))) x1, x1001))) else (none)) else (none)) else (none)) else (none))))
def spec_l15Rd_pick.f (k : Nat) (s0_0 : List Int) (s0_1 : Int) (a1 : Int) : Option (Int × Int) := if a1 < 1 then (spec_l15Rd_pick.j0 k a1 true s0_0 (wrap64 (s0_1 + 1))) else (spec_l15Rd_pick.j0 k a1 ((s0_0.length : Int) == 0) s0_0 (wrap64 (s0_1 + 1)))
theorem spec_l15Rd_pick.mono_l : ∀ k, (∀ y0 y1 y2 y3, LeO (spec_l15Rd_pick.j0 k y0 y1 y2 y3) (spec_l15Rd_pick.j0 (k + 1) y0 y1 y2 y3))
 | 0 => fun _ _ _ _ r h => by simp [spec_l15Rd_pick.j0] at h
 | k + 1 => by
  have G0 := spec_l15Rd_pick.mono_l k
  ·intro y0 y1 y2 y3
   unfold spec_l15Rd_pick.j0
   repeat' first
   | (with_reducible exact G0 _ _ _ _)
   | (with_reducible exact LeO.refl _)
   | (with_reducible exact LeO.none _)
   | (with_reducible refine LeO.ite ?_ ?_)
   | (with_reducible refine LeO.bind ?_ (fun _ => ?_))
   | exact G0 _ _ _ _
   | exact LeO.none _
   | refine LeO.ite ?_ ?_
   | refine LeO.bind ?_ (fun _ => ?_)
theorem spec_l15Rd_pick.mono : ∀ a0 a1 a2 k, LeO (spec_l15Rd_pick.f k a0 a1 a2) (spec_l15Rd_pick.f (k + 1) a0 a1 a2) := by
 intro a0 a1 a2 k
 have G0 := spec_l15Rd_pick.mono_l k
 unfold spec_l15Rd_pick.f
 repeat' first
   | (with_reducible exact G0 _ _ _ _)
   | (with_reducible exact LeO.refl _)
   | (with_reducible exact LeO.none _)
   | (with_reducible refine LeO.ite ?_ ?_)
   | (with_reducible refine LeO.bind ?_ (fun _ => ?_))
   | exact G0 _ _ _ _
   | exact LeO.none _
   | refine LeO.ite ?_ ?_
   | refine LeO.bind ?_ (fun _ => ?_)
set_option maxHeartbeats 8000000 in
set_option maxRecDepth 100000 in
theorem spec_l15Rd_pick.calls (k : Nat) (g : Nat) (D0 : List Int) (D1 : Int) (a1 : Int) (r1 : Int) (r2 : Int) (w0 w : World) (hI : IsS110 w0 w g D0 D1) (hB : Below w0.heap.size w0 w) (h : spec_l15Rd_pick.f k D0 D1 a1 = some (r1, r2)) :
  Calls Try.prog 91 #[.pointer (some ⟨g, 0, none⟩), .int .i64 a1] w fun e w' => e = .returned (.int .i64 r1) ∧ IsS110 w0 w' g D0 r2 ∧ Below w0.heap.size w0 w' ∧ KeepBut w w' g none := by
 have p0 := Aside0.mk hI; have HK := Aside0.mk (KeepBut.refl w g none); have HL := Aside0.mk hB.size; clear hI; have aR0 := Aside0.mk hB.size; have HB := Aside0.mk hB; clear hB; have H : (if a1 < 1 then (spec_l15Rd_pick.j0 k a1 true D0 (wrap64 (D1 + 1))) else (spec_l15Rd_pick.j0 k a1 ((D0.length : Int) == 0) D0 (wrap64 (D1 + 1)))) = some (r1, r2) := h; clear h; have aa0 := Aside0.mk H; clear H; obtain ⟨bN0, bO0, aZ0, bA0, bG0⟩ := p0.out; have j1 := cellS110_0 aZ0; have j2 := cellS110_1 aZ0; have k0 := blk_frozen aZ0 1; clear aZ0 bA0
 go_enter Try.func91, Try.ntmps91
 go_upto_region 2 with (fail)
 repeat (go_quiet (fail); go_upto_region 2 with (fail))
 go_cut [24] (fun L0 wc => ∃ (kq : Nat) (a0 : Bool), L0 = .bool a0 ∧ Aside0 (spec_l15Rd_pick.j0 kq a1 a0 D0 (wrap64 (D1 + 1)) = some (r1, r2)) ∧ Aside0 (kq ≤ k) ∧ Aside0 (IsS110 w0 wc g D0 (wrap64 (D1 + 1))) ∧ Aside0 (KeepBut w wc g none) ∧ Aside0 (Below w0.heap.size w0 wc))
 case first =>
  have H := aa0.out; clear aa0; replace H := ifc_ H
  rcases H with ⟨c5b0, H⟩ | ⟨c5b0, H⟩
  ·(first | rw [c5b0] | (simp only [i64_w, i32_w]; rw [c5b0]) | skip); have H' := Aside0.mk H; clear H
   go_wp2
   repeat (go_quiet (fail); try go_wp2)
   go_meet
   case rel => exact ⟨_, (true), zq69_, H', ⟨zq67_⟩, ⟨zq82_⟩, ⟨zq77_⟩, ⟨zq6e_⟩⟩
  ·(first | rw [c5b0] | (simp only [i64_w, i32_w]; rw [c5b0]) | skip); have H' := Aside0.mk H; clear H; obtain ⟨bN1, bO1, aZ1, bA1, bG1⟩ := p0.out; have j3 := cellS110_0 aZ1; have j4 := cellS110_1 aZ1; have k1 := blk_frozen aZ1 1; clear aZ1 bA1
   go_wp2
   repeat (go_quiet (fail); try go_wp2)
   go_meet
   case rel => exact ⟨_, (((D0.length : Int) == 0)), zq69_, H', ⟨zq67_⟩, ⟨zq82_⟩, ⟨zq77_⟩, ⟨zq6e_⟩⟩
 case rest =>
  clear aa0
  try clear p2
  try clear c5
  try clear c5b0
  try clear p6
  try clear j1 j2 k0
  try clear j3 j4 k1
  obtain ⟨kq, a0, rfl, HA, an0, p0, HK, HB⟩ := hcut
  cases kq with
  | zero => exact absurd HA.out (by simp [spec_l15Rd_pick.j0])
  | succ kj2 =>
   have H := HA.out; clear HA; simp only [spec_l15Rd_pick.j0] at H; replace H := ifB_ H
   rcases H with ⟨rfl, H⟩ | ⟨rfl, H⟩
   ·simp only [Option.some.injEq, Prod.mk.injEq] at H; obtain ⟨rfl, rfl⟩ := H
    go_wp2
    repeat (go_quiet (fail); try go_wp2)
    go_ret
    exact ⟨zq68_, zq82_, zq6e_, zq77_⟩
   ·replace H := ifc_ H
    rcases H with ⟨c8b0, H⟩ | ⟨c8b0, H⟩
    ·obtain ⟨aC0, bb0⟩ : ∃ j_ : Int, (wrap64 ((wrap64 (D1 + 1)) - 1)) = j_ := ⟨_, rfl⟩; replace H : (if 0 ≤ (aC0) then (if a1 = 0 then (none) else (some (Int.tmod (wrap64 (rd D0 (aC0))) a1, (wrap64 (D1 + 1))))) else (none)) = some (r1, r2) := by first | (rw [bb0] at H; exact H) | (simp only [bb0] at H ⊢; exact H)
     (try rw [bb0] at c8b0); have ck0 : (IntKind.i64.wrap ((wrap64 (D1 + 1)) - 1)) = aC0 := (i64_w _).trans bb0; replace H := ifd_ H; obtain ⟨r0, H⟩ := H; by_cases u0 : a1 = 0
     ·rw [if_pos u0] at H; exact absurd H (by simp)
     ·rw [if_neg u0] at H; have r3 : (a1 == 0) = false := beq_eq_false_iff_ne.mpr u0; have r4 : (a1 != 0) = true := bne_iff_ne.mpr u0; simp only [Option.some.injEq, Prod.mk.injEq] at H; obtain ⟨rfl, rfl⟩ := H; obtain ⟨bN1, bO1, aZ1, bA1, bG1⟩ := p0.out; have j5 := cellS110_0 aZ1; have j6 := cellS110_1 aZ1; have k2 := blk_frozen aZ1 1; clear aZ1 bA1; have x0 : 0 ≤ ((aC0) : Int) := of_decide_eq_true zq64_; have v0 : (aC0) < (D0.length : Int) := of_decide_eq_true zq64_; obtain ⟨E0, M0, s0⟩ := Kd.at_int bG1 (aC0) x0 v0; cases M0; replace s0 := pw_cell_below HB.out s0; replace x0 := eq_true x0; replace v0 := eq_true v0
      go_wp2
      repeat (go_quiet (fail); try go_wp2)
      go_ret
      exact ⟨by first | rfl | (simp [errW_none, errW_some] <;> rfl) | (simp only [← bb0]; first | rfl | (simp [errW_none, errW_some] <;> rfl)) | (simp [*, errW_none, errW_some] <;> rfl), zq82_, zq6e_, zq77_⟩
    ·by_cases u0 : (D0.length : Int) = 0
     ·rw [if_pos u0] at H; exact absurd H (by simp)
     ·rw [if_neg u0] at H; have r0 : ((D0.length : Int) == 0) = false := beq_eq_false_iff_ne.mpr u0; have r3 : ((D0.length : Int) != 0) = true := bne_iff_ne.mpr u0; have r4 : ¬ (D0 = []) := fun h_ => u0 (by rw [h_]; rfl)
      obtain ⟨aC0, bb0⟩ : ∃ j_ : Int, (Int.tmod (wrap64 ((wrap64 (D1 + 1)) - 1)) (D0.length : Int)) = j_ := ⟨_, rfl⟩; replace H : (if 0 ≤ (aC0) then (if (aC0) < (D0.length : Int) then (if 0 ≤ (Int.tmod (wrap64 ((wrap64 ((wrap64 ((wrap64 (D1 + 1)) - 1)) * 7)) + 3)) (D0.length : Int)) then (if (Int.tmod (wrap64 ((wrap64 ((wrap64 ((wrap64 (D1 + 1)) - 1)) * 7)) + 3)) (D0.length : Int)) < (D0.length : Int) then (if a1 = 0 then (none) else (some (Int.tmod (Go.bits .xor .i64 (wrap64 ((wrap64 ((wrap64 ((wrap64 ((wrap64 (rd D0 (aC0))) * 131)) + (wrap64 ((wrap64 (rd D0 (Int.tmod (wrap64 ((wrap64 ((wrap64 ((wrap64 (D1 + 1)) - 1)) * 7)) + 3)) (D0.length : Int)))) * 1117)))) + (wrap64 ((wrap64 ((wrap64 (D1 + 1)) - 1)) * 29)))) + (wrap64 ((wrap64 (Int.tdiv (wrap64 ((wrap64 (D1 + 1)) - 1)) (D0.length : Int))) * 53)))) (wrap64 (Int.tdiv (wrap64 ((wrap64 ((wrap64 ((wrap64 ((wrap64 (rd D0 (aC0))) * 131)) + (wrap64 ((wrap64 (rd D0 (Int.tmod (wrap64 ((wrap64 ((wrap64 ((wrap64 (D1 + 1)) - 1)) * 7)) + 3)) (D0.length : Int)))) * 1117)))) + (wrap64 ((wrap64 ((wrap64 (D1 + 1)) - 1)) * 29)))) + (wrap64 ((wrap64 (Int.tdiv (wrap64 ((wrap64 (D1 + 1)) - 1)) (D0.length : Int))) * 53)))) 64))) a1, (wrap64 (D1 + 1))))) else (none)) else (none)) else (none)) else (none)) = some (r1, r2) := by first | (rw [bb0] at H; exact H) | (simp only [bb0] at H ⊢; exact H)
      replace H := ifd2_ H; obtain ⟨r5, r6, H⟩ := H; obtain ⟨aC1, bb1⟩ : ∃ j_ : Int, (Int.tmod (wrap64 ((wrap64 ((wrap64 ((wrap64 (D1 + 1)) - 1)) * 7)) + 3)) (D0.length : Int)) = j_ := ⟨_, rfl⟩; replace H : (if 0 ≤ (aC1) then (if (aC1) < (D0.length : Int) then (if a1 = 0 then (none) else (some (Int.tmod (Go.bits .xor .i64 (wrap64 ((wrap64 ((wrap64 ((wrap64 ((wrap64 (rd D0 (aC0))) * 131)) + (wrap64 ((wrap64 (rd D0 (aC1))) * 1117)))) + (wrap64 ((wrap64 ((wrap64 (D1 + 1)) - 1)) * 29)))) + (wrap64 ((wrap64 (Int.tdiv (wrap64 ((wrap64 (D1 + 1)) - 1)) (D0.length : Int))) * 53)))) (wrap64 (Int.tdiv (wrap64 ((wrap64 ((wrap64 ((wrap64 ((wrap64 (rd D0 (aC0))) * 131)) + (wrap64 ((wrap64 (rd D0 (aC1))) * 1117)))) + (wrap64 ((wrap64 ((wrap64 (D1 + 1)) - 1)) * 29)))) + (wrap64 ((wrap64 (Int.tdiv (wrap64 ((wrap64 (D1 + 1)) - 1)) (D0.length : Int))) * 53)))) 64))) a1, (wrap64 (D1 + 1))))) else (none)) else (none)) = some (r1, r2) := by first | (rw [bb1] at H; exact H) | (simp only [bb1] at H ⊢; exact H)
      replace H := ifd2_ H; obtain ⟨r7, r8, H⟩ := H; by_cases u1 : a1 = 0
      ·rw [if_pos u1] at H; exact absurd H (by simp)
      ·rw [if_neg u1] at H; have r9 : (a1 == 0) = false := beq_eq_false_iff_ne.mpr u1; have r10 : (a1 != 0) = true := bne_iff_ne.mpr u1; simp only [Option.some.injEq, Prod.mk.injEq] at H; obtain ⟨rfl, rfl⟩ := H; obtain ⟨bN1, bO1, aZ1, bA1, bG1⟩ := p0.out; have j5 := cellS110_0 aZ1; have j6 := cellS110_1 aZ1; have k2 := blk_frozen aZ1 1; clear aZ1 bA1; have x0 : 0 ≤ ((aC0) : Int) := of_decide_eq_true zq64_; have v0 : (aC0) < (D0.length : Int) := of_decide_eq_true zq64_; obtain ⟨E0, M0, s0⟩ := Kd.at_int bG1 (aC0) x0 v0; cases M0; replace s0 := pw_cell_below HB.out s0; replace x0 := eq_true x0; replace v0 := eq_true v0; have x1 : 0 ≤ ((aC1) : Int) := of_decide_eq_true zq64_; have v1 : (aC1) < (D0.length : Int) := of_decide_eq_true zq64_; obtain ⟨E1, M1, s1⟩ := Kd.at_int bG1 (aC1) x1 v1; obtain rfl : E0 = E1 := (by injection M1); replace s1 := pw_cell_below HB.out s1; replace x1 := eq_true x1; replace v1 := eq_true v1
       go_wp2
       repeat (go_quiet (fail); try go_wp2)
       go_ret
       exact ⟨by first | rfl | (simp [errW_none, errW_some] <;> rfl) | (simp only [← bb0, ← bb1]; first | rfl | (simp [errW_none, errW_some] <;> rfl)) | (simp [*, errW_none, errW_some] <;> rfl), zq82_, zq6e_, zq77_⟩

/-! ### spec_BoxOpen: function 97 -/
def spec_BoxOpen.f  : Option ((List (S46))) := if 4 ≤ 17592186044416 then (some (List.replicate 4 z46)) else (none)
set_option maxHeartbeats 8000000 in
set_option maxRecDepth 100000 in
theorem spec_BoxOpen.calls  (r : List (S46)) (w : World) (h : spec_BoxOpen.f  = some r) :
  Calls Try.prog 97 #[] w fun e w' => ∃ v0_ : Value, e = .returned (v0_) ∧ Kd.R k46 46 w' w.heap.size (fun _ => True) v0_ r ∧ Below w.heap.size w w' := by
 have HB := Aside0.mk (Below.refl w.heap.size w); have H : (if 4 ≤ 17592186044416 then (some (List.replicate 4 z46)) else (none)) = some r := h; clear h; replace H := ifp_ H; obtain ⟨c1, H⟩ := H; have r0 := eq_true c1; have r1 : decide (4 ≤ 17592186044416) = true := decide_eq_true c1; clear c1; obtain ⟨K0, J0⟩ : ∃ y_ : List (S46), y_ = (List.replicate 4 z46) := ⟨_, rfl⟩; replace H : (some K0) = some r := by first | (rw [J0]; with_reducible exact H) | (have T0 := (Option.bind_some _ _).symm.trans H; rw [J0]; with_reducible exact T0) | (have T0 := (Option.bind_some _ _).symm.trans H; with_reducible exact T0) | with_reducible exact H | (rw [J0]; exact H) | exact H
 have ac0 := Aside0.mk J0; clear J0; obtain rfl := Option.some.inj H
 go_enter Try.func97, Try.ntmps97
 go_wp2_with (first | ((with_reducible refine gate_dst (N := 1) rfl ?_); refine Kd.R_make k46 _ 46 rfl (N := 1) rfl 23 _ _ rfl 4 rfl rfl Try.underlying23 (.agg #[(.int .i64 0), (.int .i64 0)]) 16 info46 rfl (by decide) (by omega) z46 (ok := fun _ => True) (okp := fun _ => True) (k46_mkM _ _ _ z46 ) (fun _ hk => hk) trivial (by omega) (by omega) (Below.refl _ _) (Nat.le_refl _) ?_; intro L0 w2 t0 hb ao ap; clear ao ap; (first | rw [← ac0.out] at t0 | (simp only [Int.reduceToNat] at t0; rw [← ac0.out] at t0)); have n_ := A2_ (Kd.R_lower t0 (below_size zq74_)) (below_step zq74_ hb); clear HB; obtain ⟨f0, HB⟩ := n_; clear hb t0))
 go_ret
 exact ⟨_, zq68_, zq18_, zq74_⟩

/-! ### spec_l15Rd_num: function 98 -/
def spec_l15Rd_num.f (k : Nat) (s0_0 : List Int) (s0_1 : Int) (l1 : List Int) : Option (Int × Int) := (spec_l15Rd_pick.f k s0_0 s0_1 (l1.length : Int)).bind fun bt354 => (if 0 ≤ bt354.1 then (if bt354.1 < (l1.length : Int) then (some (rd l1 bt354.1, bt354.2)) else (none)) else (none))
theorem spec_l15Rd_num.mono : ∀ a0 a1 a2 k, LeO (spec_l15Rd_num.f k a0 a1 a2) (spec_l15Rd_num.f (k + 1) a0 a1 a2) := by
 intro a0 a1 a2 k
 unfold spec_l15Rd_num.f
 repeat' first
   | (with_reducible exact spec_l15Rd_pick.mono _ _ _ _)
   | (with_reducible exact LeO.refl _)
   | (with_reducible exact LeO.none _)
   | (with_reducible refine LeO.ite ?_ ?_)
   | (with_reducible refine LeO.bind ?_ (fun _ => ?_))
   | exact spec_l15Rd_pick.mono _ _ _ _
   | exact LeO.none _
   | refine LeO.ite ?_ ?_
   | refine LeO.bind ?_ (fun _ => ?_)
set_option maxHeartbeats 8000000 in
set_option maxRecDepth 100000 in
theorem spec_l15Rd_num.calls (k : Nat) (g : Nat) (D0 : List Int) (D1 : Int) (A1 : Option Addr) (c1 : Nat) (l1 : List Int) (r1 : Int) (r2 : Int) (w0 w : World) (hI : IsS110 w0 w g D0 D1) (hB : Below w0.heap.size w0 w) (V0 : Kd.C (Kd.int .i64) w A1 l1.length l1) (Z0 : l1.length ≤ c1) (bq0 : ∀ ad, A1 = some ad → 0 < l1.length → ad.block ≠ g) (h : spec_l15Rd_num.f k D0 D1 l1 = some (r1, r2)) :
  Calls Try.prog 98 #[.pointer (some ⟨g, 0, none⟩), .slice A1 l1.length c1] w fun e w' => e = .returned (.int .i64 r1) ∧ IsS110 w0 w' g D0 r2 ∧ Below w0.heap.size w0 w' ∧ KeepBut w w' g none := by
 have U0 := Aside0.mk V0; have aa0 := Aside0.mk Z0; clear V0 Z0; have p0 := Aside0.mk hI; have HK := Aside0.mk (KeepBut.refl w g none); have HL := Aside0.mk hB.size; clear hI; have aR0 := Aside0.mk hB.size; have HB := Aside0.mk hB; clear hB; have H : ((spec_l15Rd_pick.f k D0 D1 (l1.length : Int)).bind fun F0 => (if 0 ≤ F0.1 then (if F0.1 < (l1.length : Int) then (some (rd l1 F0.1, F0.2)) else (none)) else (none))) = some (r1, r2) := h; clear h; replace H := Option.bind_eq_some_iff.mp H; obtain ⟨⟨e0, e1⟩, y0, H⟩ := H; (try dsimp only at H); have A3 := Aside0.mk y0; clear y0; replace H := ifd2_ H; obtain ⟨r0, r3, H⟩ := H; simp only [Option.some.injEq, Prod.mk.injEq] at H; obtain ⟨rfl, rfl⟩ := H
 go_enter Try.func98, Try.ntmps98
 go_wp2_with (first | ((with_reducible refine gate_callee (f := 91) rfl ?_); refine gl_ 9 Try.func91 #[.pointer (some ⟨g, 0, none⟩), .int .i64 (l1.length : Int)] ?_; (with_reducible refine (spec_l15Rd_pick.calls k g D0 D1 (l1.length : Int) e0 e1 w0 _ ?_ ?_ A3.out).mono ?_); exact zq82_; exact zq6e_; rintro e w6 ⟨rfl, hi, hb, hk⟩; refine ⟨_, rfl, ?_⟩; have n_ := A3_ (KeepBut.trans zq77_ hk (.inl rfl)) (hb) (hi); clear HK HB p0; obtain ⟨HK, HB, p0⟩ := n_; (try clear hb); (try clear hk); (try clear hi); have x0 : 0 ≤ (e0 : Int) := of_decide_eq_true zq64_; have v0 : e0 < (l1.length : Int) := of_decide_eq_true zq64_; obtain ⟨E0, M0, s0⟩ := Kd.at_int U0.out e0 x0 v0; cases M0; replace s0 := keep_cell HK.out s0 (by first | (rw [add_block]; exact bq0 _ rfl (by omega)) | exact bq0 _ rfl (by omega) | exact bq0 E0 rfl (by omega)); replace x0 := eq_true x0; replace v0 := eq_true v0))
 go_ret
 exact ⟨zq68_, zq82_, zq6e_, zq77_⟩

end Go.Proofs.Ytgdafcakefnpdaa.PFnSerialOne

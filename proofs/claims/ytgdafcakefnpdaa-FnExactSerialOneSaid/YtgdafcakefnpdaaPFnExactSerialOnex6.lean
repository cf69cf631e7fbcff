-- Laid by this session's program out of the translation (gen.sh).
import Derived.Test.YtgdafcakefnpdaaPFnExactSerialOnex0
import Derived.Test.YtgdafcakefnpdaaPFnExactSerialOnex5
namespace Go.Proofs.Ytgdafcakefnpdaa.PFnExactSerialOne
open Go.RowKit Go.Proofs.YtgdafcakefnpdaaW.PrintWords Go.Proofs.YtgdafcakefnpdaaW.PrintLast Go.Proofs.YtgdafcakefnpdaaW.PrintMore
attribute [local go_sem] max2_int min2_int max_two min_two max_three min_three max_four min_four   -- for this text's walks alone
set_option linter.unusedVariables false
set_option linter.unusedSimpArgs false

/-! ### spec_SerialOne: function 31 -/
def spec_SerialOne.f (k : Nat) (l0 : List (S46)) (l1 : List (S34)) : Option ((List (S46)) × Int × Int) := (spec_ExecRun.f k l0 l1).bind fun bt203 => (if bt203.2.2.2 = 3 then (some ((([] : List (S46))), 0, 3)) else ((spec_l1Copy.f l0).bind fun t215 => ((spec_l3Do.f k t215 bt203.1 bt203.2.1 bt203.2.2.1 bt203.2.2.2).bind fun t218 => (some (t218, bt203.2.2.1, bt203.2.2.2)))))
theorem spec_SerialOne.mono : ∀ a0 a1 k, LeO (spec_SerialOne.f k a0 a1) (spec_SerialOne.f (k + 1) a0 a1) := by
 intro a0 a1 k
 unfold spec_SerialOne.f
 repeat' first
   | (with_reducible exact spec_ExecRun.mono _ _ _)
   | (with_reducible exact spec_l3Do.mono _ _ _ _ _ _)
   | (with_reducible exact LeO.refl _)
   | (with_reducible exact LeO.none _)
   | (with_reducible refine LeO.ite ?_ ?_)
   | (with_reducible refine LeO.bind ?_ (fun _ => ?_))
   | exact spec_ExecRun.mono _ _ _
   | exact spec_l3Do.mono _ _ _ _ _ _
   | exact LeO.none _
   | refine LeO.ite ?_ ?_
   | refine LeO.bind ?_ (fun _ => ?_)
def spec_SerialOne.T4 : Bool × List (List Nat × List Nat) := (true, [([], []), ([0], [0]), ([], []), ([1, 2, 1], [1, 2]), ([], []), ([4], [4]), ([], []), ([6], [6]), ([3, 3, 0, 1, 2, 3], [3]), ([5, 8, 0, 1, 2, 3, 4, 5, 8], [5]), ([7, 9, 0, 1, 2, 3, 4, 5, 6, 7, 8, 9], [7])])
def spec_SerialOne.B4 : List Nat := [0, 1, 0, 7, 0, 16, 0, 64, 15, 319, 1023]
theorem spec_SerialOne.tab4 : rtab .any (opsOf Try.f31 4) = spec_SerialOne.T4 := by kernel_rfl
theorem spec_SerialOne.bits4 : waitsOk spec_SerialOne.T4.2 spec_SerialOne.B4 = true := by kernel_rfl
set_option maxHeartbeats 8000000 in
set_option maxRecDepth 100000 in
theorem spec_SerialOne.calls (k : Nat) (A0 : Option Addr) (c0 : Nat) (l0 : List (S46)) (A1 : Option Addr) (c1 : Nat) (l1 : List (S34)) (r1 : List (S46)) (r2 : Int) (r3 : Int) (w : World) (V0 : Kd.C k46 w A0 l0.length l0) (S0 : l0.length ≤ c0) (V1 : Kd.C k34 w A1 l1.length l1) (S1 : l1.length ≤ c1) (h : spec_SerialOne.f k l0 l1 = some (r1, r2, r3)) :
  Calls Try.prog 31 #[.slice A0 l0.length c0, .slice A1 l1.length c1] w fun e w' => ∃ v0_ : Value, e = .returned (.tuple #[v0_, .int .i64 r2, .int .i64 r3]) ∧ Kd.R k46 46 w' w.heap.size (fun _ => True) v0_ r1 ∧ Below w.heap.size w w' := by
 have ar0 := Try.underlying30; have R0 := Aside0.mk V0; have X0 := Aside0.mk S0; clear V0 S0; have R1 := Aside0.mk V1; have X1 := Aside0.mk S1; clear V1 S1; have HB := Aside0.mk (Below.refl w.heap.size w); have H : ((spec_ExecRun.f k l0 l1).bind fun ao0 => (if ao0.2.2.2 = 3 then (some ((([] : List (S46))), 0, 3)) else ((spec_l1Copy.f l0).bind fun i0 => ((spec_l3Do.f k i0 ao0.1 ao0.2.1 ao0.2.2.1 ao0.2.2.2).bind fun i1 => (some (i1, ao0.2.2.1, ao0.2.2.2)))))) = some (r1, r2, r3) := h; clear h; replace H := Option.bind_eq_some_iff.mp H; obtain ⟨⟨i2, i3, i4, i5⟩, F0, H⟩ := H; (try dsimp only at H); have A3 := Aside0.mk F0; clear F0; by_cases c4 : i5 = 3
 ·rw [if_pos c4] at H; have r0 : (i5 == 3) = true := beq_iff_eq.mpr c4; have r4 : (i5 != 3) = false := bne_eq_false_iff_eq.mpr c4; clear c4; obtain ⟨A2, H0⟩ : ∃ y_ : List (S46), y_ = (([] : List (S46))) := ⟨_, rfl⟩; replace H : (some (A2, 0, 3)) = some (r1, r2, r3) := by first | (rw [H0]; with_reducible exact H) | (have Z0 := (Option.bind_some _ _).symm.trans H; rw [H0]; with_reducible exact Z0) | (have Z0 := (Option.bind_some _ _).symm.trans H; with_reducible exact Z0) | with_reducible exact H | (rw [H0]; exact H) | exact H
  have am0 := Aside0.mk H0; clear H0; simp only [Option.some.injEq, Prod.mk.injEq] at H; obtain ⟨rfl, rfl, rfl⟩ := H
  go_enter Try.func31, Try.ntmps31
  go_wp2_with (first | ((with_reducible refine gate_callee (f := 15) rfl ?_); refine gl_ 10 Try.func15 #[.slice A0 l0.length c0, .slice A1 l1.length c1] ?_; (with_reducible refine (spec_ExecRun.calls k _ _ l0 _ _ l1 i2 i3 i4 i5 _ ?_ ?_ ?_ ?_ A3.out).mono ?_); exact zq6a_; exact X0.out; exact zq6b_; exact X1.out; rintro e w5 ⟨af0, af1, rfl, G0, G1, hb⟩; refine ⟨_, rfl, ?_⟩; have n_ := A3_ (Kd.R_lower G0 (below_size zq54_)) (Kd.R_lower G1 (below_size zq54_)) (below_step zq54_ hb); clear HB; obtain ⟨m0, m1, HB⟩ := n_; (try clear hb); (try clear G0); (try clear G1)) | ((with_reducible refine gate_dst (N := 7) rfl ?_); refine bxe_ (N := 7) (cs := #[.slice none 0 0, .slice none 0 0, .int .i64 0, .int .i64 0]) (t := 30) ?_; intro c2 hg w6 x hb; have n_ := A6_ (Kd.R_below zqe_ hb) (Kd.R_below zqf_ hb) (below_step zq54_ hb) (x) ((zq81_ : w.heap.size ≤ c2)) ((zq81_ : w.heap.size ≤ c2)); clear m0 m1 HB; obtain ⟨m0, m1, HB, b0, z0, j0⟩ := n_; clear hb x hg; obtain ⟨o0, l2, D0⟩ := Kd.R_slice m0.out; subst D0; obtain ⟨g0, g1, g2, g3, h0, h1, h2, h3⟩ := bz4_ b0.out; obtain ⟨o1, l3, D1⟩ := Kd.R_slice m1.out; subst D1) | ((with_reducible refine gate_dst (N := 14) rfl ?_); refine Kd.R_lit k46 _ 46 ?hg (N := 14) ?hd (xs := ([] : List (S46))) (inner := []) (ok := fun _ => True) (okp := fun _ => True) ?hr ?hp (fun _ hk => hk) trivial (Below.refl _ _) (Nat.le_refl _) (by simp) ?_; (case hd => rfl); (case hg => rfl); (case hr => first | (go_simp; done) | (go_simp; rfl)); (case hp => exact (Reps.none _ _)); intro af2 q0 G2 hb aP aQ; clear aP aQ; (first | rw [← am0.out] at G2 | (simp only [Int.reduceToNat] at G2; rw [← am0.out] at G2)); have n_ := A5_ (Kd.R_below (by (with_reducible repeat (first | apply Kd.R_alloc | apply Kd.R_drewN | apply Kd.R_drew)); exact (Kd.R_mono (Kd.R_far (p := ⟨c2, 3, none⟩) (Kd.R_far (p := ⟨c2, 2, none⟩) (Kd.R_far (p := ⟨c2, 1, none⟩) (Kd.R_far (p := ⟨c2, 0, none⟩) (Kd.R_types m0.out b0.out (by decide)) (fun _ hk => hk.2) (.slice o0 i2.length l2)) (fun _ hk => hk.2) (.slice o1 i3.length l3)) (fun _ hk => hk.2) (.int .i64 i4)) (fun _ hk => hk.2) (.int .i64 i5)) (fun _ h_ => h_.1))) hb) (Kd.R_below (by (with_reducible repeat (first | apply Kd.R_alloc | apply Kd.R_drewN | apply Kd.R_drew)); exact (Kd.R_mono (Kd.R_far (p := ⟨c2, 3, none⟩) (Kd.R_far (p := ⟨c2, 2, none⟩) (Kd.R_far (p := ⟨c2, 1, none⟩) (Kd.R_far (p := ⟨c2, 0, none⟩) (Kd.R_types m1.out b0.out (by decide)) (fun _ hk => hk.2) (.slice o0 i2.length l2)) (fun _ hk => hk.2) (.slice o1 i3.length l3)) (fun _ hk => hk.2) (.int .i64 i4)) (fun _ hk => hk.2) (.int .i64 i5)) (fun _ h_ => h_.1))) hb) (Kd.R_lower G2 (below_size zq4c_)) (blk_below (g := c2) (o := .cells #[.slice o0 i2.length l2, .slice o1 i3.length l3, .int .i64 i4, .int .i64 i5] 30 (0, 0)) zq35_ hb) (below_step zq4c_ hb); clear m0 m1 b0 HB; obtain ⟨m0, m1, m2, b0, HB⟩ := n_; clear hb G2))
  go_ret3
  exact ⟨_, zq44_, zq10_, zq4c_⟩
 ·rw [if_neg c4] at H; have r0 : (i5 == 3) = false := beq_eq_false_iff_ne.mpr c4; have r4 : (i5 != 3) = true := bne_iff_ne.mpr c4; replace H := bs_ H; obtain ⟨i0, F1, H⟩ := H; (try dsimp only at H); replace H := bs_ H; obtain ⟨i1, F2, H⟩ := H; (try dsimp only at H); simp only [Option.some.injEq, Prod.mk.injEq] at H; obtain ⟨rfl, rfl, rfl⟩ := H
  go_enter Try.func31, Try.ntmps31
  try go_wp2_with (first | ((with_reducible refine gate_callee (f := 15) rfl ?_); refine gl_ 10 Try.func15 #[.slice A0 l0.length c0, .slice A1 l1.length c1] ?_; (with_reducible refine (spec_ExecRun.calls k _ _ l0 _ _ l1 i2 i3 i4 i5 _ ?_ ?_ ?_ ?_ A3.out).mono ?_); exact zq6a_; exact X0.out; exact zq6b_; exact X1.out; rintro e q0 ⟨af0, af1, rfl, G0, G1, hb⟩; refine ⟨_, rfl, ?_⟩; have n_ := A3_ (Kd.R_lower G0 (below_size zq54_)) (Kd.R_lower G1 (below_size zq54_)) (below_step zq54_ hb); clear HB; obtain ⟨m0, m1, HB⟩ := n_; (try clear hb); (try clear G0); (try clear G1)) | ((with_reducible refine gate_dst (N := 7) rfl ?_); refine bxe_ (N := 7) (cs := #[.slice none 0 0, .slice none 0 0, .int .i64 0, .int .i64 0]) (t := 30) ?_; intro c2 hg q1 x hb; have n_ := A6_ (Kd.R_below zqe_ hb) (Kd.R_below zqf_ hb) (below_step zq54_ hb) (x) ((zq81_ : w.heap.size ≤ c2)) ((zq81_ : w.heap.size ≤ c2)); clear m0 m1 HB; obtain ⟨m0, m1, HB, b0, z0, j0⟩ := n_; clear hb x hg; obtain ⟨o0, l2, D0⟩ := Kd.R_slice m0.out; subst D0; obtain ⟨g0, g1, g2, g3, h0, h1, h2, h3⟩ := bz4_ b0.out; obtain ⟨o1, l3, D1⟩ := Kd.R_slice m1.out; subst D1))
  have d0 : Aside0 (Kd.R k48 48 ((((q1.setCell ⟨c2, 0, none⟩ (.slice o0 i2.length l2)).setCell ⟨c2, 1, none⟩ (.slice o1 i3.length l3)).setCell ⟨c2, 2, none⟩ (.int .i64 i4)).setCell ⟨c2, 3, none⟩ (.int .i64 i5)) w.heap.size (fun _ => True) (.slice o0 i2.length l2) i2) := ⟨by (with_reducible repeat (first | apply Kd.R_alloc | apply Kd.R_drewN | apply Kd.R_drew)); exact Kd.R_mono (Kd.R_far (p := ⟨c2, 3, none⟩) (Kd.R_far (p := ⟨c2, 2, none⟩) (Kd.R_far (p := ⟨c2, 1, none⟩) (Kd.R_far (p := ⟨c2, 0, none⟩) (Kd.R_types m0.out b0.out (by decide)) (fun _ hk => hk.2) (.slice o0 i2.length l2)) (fun _ hk => hk.2) (.slice o1 i3.length l3)) (fun _ hk => hk.2) (.int .i64 i4)) (fun _ hk => hk.2) (.int .i64 i5)) (fun _ hk => trivial)⟩; have d1 : Aside0 (Kd.R k36 36 ((((q1.setCell ⟨c2, 0, none⟩ (.slice o0 i2.length l2)).setCell ⟨c2, 1, none⟩ (.slice o1 i3.length l3)).setCell ⟨c2, 2, none⟩ (.int .i64 i4)).setCell ⟨c2, 3, none⟩ (.int .i64 i5)) w.heap.size (fun _ => True) (.slice o1 i3.length l3) i3) := ⟨by (with_reducible repeat (first | apply Kd.R_alloc | apply Kd.R_drewN | apply Kd.R_drew)); exact Kd.R_mono (Kd.R_far (p := ⟨c2, 3, none⟩) (Kd.R_far (p := ⟨c2, 2, none⟩) (Kd.R_far (p := ⟨c2, 1, none⟩) (Kd.R_far (p := ⟨c2, 0, none⟩) (Kd.R_types m1.out b0.out (by decide)) (fun _ hk => hk.2) (.slice o0 i2.length l2)) (fun _ hk => hk.2) (.slice o1 i3.length l3)) (fun _ hk => hk.2) (.int .i64 i4)) (fun _ hk => hk.2) (.int .i64 i5)) (fun _ hk => trivial)⟩; have d2 : Aside0 (((((q1.setCell ⟨c2, 0, none⟩ (.slice o0 i2.length l2)).setCell ⟨c2, 1, none⟩ (.slice o1 i3.length l3)).setCell ⟨c2, 2, none⟩ (.int .i64 i4)).setCell ⟨c2, 3, none⟩ (.int .i64 i5)).heap[c2]? = some (.cells #[.slice o0 i2.length l2, .slice o1 i3.length l3, .int .i64 i4, .int .i64 i5] 30 (0, 0))) := ⟨zq35_⟩; have d3 : Aside0 (Below w.heap.size w ((((q1.setCell ⟨c2, 0, none⟩ (.slice o0 i2.length l2)).setCell ⟨c2, 1, none⟩ (.slice o1 i3.length l3)).setCell ⟨c2, 2, none⟩ (.int .i64 i4)).setCell ⟨c2, 3, none⟩ (.int .i64 i5))) := ⟨zq4c_⟩; (try clear m0); (try clear m1); (try clear b0); (try clear HB); generalize ((((q1.setCell ⟨c2, 0, none⟩ (.slice o0 i2.length l2)).setCell ⟨c2, 1, none⟩ (.slice o1 i3.length l3)).setCell ⟨c2, 2, none⟩ (.int .i64 i4)).setCell ⟨c2, 3, none⟩ (.int .i64 i5)) = q2 at d0 d1 d2 d3 ⊢; have m0 := d0; have m1 := d1; have b0 := d2; have HB := d3; clear d0 d1 d2 d3; have n_ := A4_ (Kd.R_drew m0.out) (Kd.R_drew m1.out) (blk_drew b0.out) (below_drew1 HB.out); clear m0 m1 b0 HB; obtain ⟨m0, m1, b0, HB⟩ := n_; refine start_ (n := 11) (S := fun w' => w'.cell? ⟨c2, 0, none⟩ = some (.slice o0 i2.length l2) ∧ w'.cell? ⟨c2, 1, none⟩ = some (.slice o1 i3.length l3) ∧ w'.cell? ⟨c2, 2, none⟩ = some (.int .i64 i4) ∧ w'.cell? ⟨c2, 3, none⟩ = some (.int .i64 i5)) (ds := []) #[false, false, false, false, false, false, false, false, false, false, false] (by kernel_rfl) rfl rfl ⟨(blk_cell b0.out 0).trans rfl, (blk_cell b0.out 1).trans rfl, (blk_cell b0.out 2).trans rfl, (blk_cell b0.out 3).trans rfl⟩ (fun hHeld => ?_); refine with_tabW spec_SerialOne.tab4 spec_SerialOne.bits4 (fun HT_ HW_ => ?_); generalize q2.drew = q3 at m0 m1 b0 HB hHeld ⊢; refine pw_ 0 15 ?_; refine pw_ 4 19 ?_; refine pw_ 6 21 ?_; refine tw_ 2 17 ?_; refine tw_ 5 20 ?_; refine tw_ 7 22 ?_; refine on_ (i := 1) (N := some 16) rfl rfl (one_of HT_.out (by kernel_rfl)) (by decide) (fun K hK => ?_); refine goes_ Try.func73 (by kernel_rfl) rfl #[.slice A0 l0.length c0] (by rfl) rfl rfl zq1_ ?_
  with_reducible refine (spec_l1Copy.calls _ _ l0 i0 _ ?side1 ?side2 F1.out).mono ?_
  (case side1 => exact zq5b_); (case side2 => exact X0.out); rintro e q4 ⟨af2, rfl, G0, hb⟩; refine ⟨_, rfl, ?_⟩; have n_ := A5_ (Kd.R_below zqe_ hb) (Kd.R_below zqf_ hb) (Kd.R_lower G0 (below_size zq4c_)) (blk_below (g := c2) (o := .cells #[.slice o0 i2.length l2, .slice o1 i3.length l3, .int .i64 i4, .int .i64 i5] 30 (0, 0)) zq19_ hb) (below_step zq4c_ hb); clear m0 m1 b0 HB; obtain ⟨m0, m1, m2, b0, HB⟩ := n_; (try clear hb); (try clear hb2); (try clear hk); (try clear hi); (try clear G0); obtain ⟨o2, l4, D2⟩ := Kd.R_slice m2.out; (first | subst D2 | (injection D2 with I0 I1 I2; have I3 := I0.symm; have I4 := I2.symm; clear I0 I1 I2; subst I3; subst I4)); refine hK.out _ _ ⟨(blk_cell b0.out 0).trans rfl, (blk_cell b0.out 1).trans rfl, (blk_cell b0.out 2).trans rfl, (blk_cell b0.out 3).trans rfl⟩ (fun hHeld => ?_); clear hK K; refine norm_ (a' := ?_) ?_ ?_
  rotate_left
  ·show Act.put _ (some 16) _ = _; simp only [Act.put, List.setIfInBounds_toArray, List.set_cons_zero, List.set_cons_succ, i64_w, i32_w]; rfl
  refine on_ (i := 3) (N := some 18) rfl rfl (one_of HT_.out (by kernel_rfl)) (by decide) (fun K hK => ?_); refine goes_ Try.func72 (by kernel_rfl) rfl #[.slice o2 i0.length l4, .agg #[.slice o0 i2.length l2, .slice o1 i3.length l3, .int .i64 i4, .int .i64 i5]] (by rfl) rfl rfl zq1_ ?_
  with_reducible refine (spec_l3Do.calls k (fun k_ => some k_ = (.slice o2 i0.length l4 : Value).ownBlock) (.slice o2 i0.length l4) i0 _ _ i2 _ _ i3 i4 i5 i1 w _ ?side1 ?side2 ?side3 ?side4 ?side5 ?side6 F2.out).mono ?_
  (case side1 => exact zq4c_); (case side2 => exact Kd.R_tight rfl m2.out); (case side3 => exact Kd.C_kept_own ((Kd.R_apart' m0.out (Kd.R_typed m2.out) (by decide))) (fun k_ O hs_ => (O.2) hs_)); (case side4 => exact (Kd.R_reads' m0.out).2.1); (case side5 => exact Kd.C_kept_own ((Kd.R_apart' m1.out (Kd.R_typed m2.out) (by decide))) (fun k_ O hs_ => (O.2) hs_)); (case side6 => exact (Kd.R_reads' m1.out).2.1); rintro e q5 ⟨af3, rfl, G0, hb, al⟩; refine ⟨_, rfl, ?_⟩; have n_ := A5_ (Kd.R_mono (ok' := fun k_ => True) (Kd.R_keptB ((Kd.R_apart' m0.out (Kd.R_typed m2.out) (by decide))) al (fun k_ O hs_ => (O.2) hs_)) (fun k_ O => trivial)) (Kd.R_mono (ok' := fun k_ => True) (Kd.R_keptB ((Kd.R_apart' m1.out (Kd.R_typed m2.out) (by decide))) al (fun k_ O hs_ => (O.2) hs_)) (fun k_ O => trivial)) (blk_kept zq19_ al (fun hs_ => (fun e_ => (Kd.R_ne m2.out b0.out (by decide)) e_) hs_)) (Kd.R_mono (ok' := fun k_ => True) G0 (fun k_ O => trivial)) (hb); clear m0 m1 b0 HB m2; obtain ⟨m0, m1, b0, m3, HB⟩ := n_; (try clear hb); (try clear al); (try clear G0); refine hK.out _ _ ⟨(blk_cell b0.out 0).trans rfl, (blk_cell b0.out 1).trans rfl, (blk_cell b0.out 2).trans rfl, (blk_cell b0.out 3).trans rfl⟩ (fun hHeld => ?_); clear hK K; refine norm_ (a' := ?_) ?_ ?_
  rotate_left
  ·show Act.put _ (some 18) _ = _; simp only [Act.put, List.setIfInBounds_toArray, List.set_cons_zero, List.set_cons_succ, i64_w, i32_w]; rfl
  refine pw_ 8 4 ?_; refine pw_ 9 5 ?_; refine pw_ 10 6 ?_; refine done_ (done_of HT_.out (by kernel_rfl)) ?_
  try go_wp2
  go_ret3
  exact ⟨_, zq44_, zq11_, zq4c_⟩

/-! ### laws_toBox: function 80 -/
def laws_toBox.f (a0_0 : Int) (a0_1 : Int) : Option (Int × Int) := some (a0_0, a0_1)
set_option maxHeartbeats 8000000 in
set_option maxRecDepth 100000 in
theorem laws_toBox.calls (e0 : Int) (e1 : Int) (r1 : Int) (r2 : Int) (w : World) (h : laws_toBox.f e0 e1 = some (r1, r2)) :
  Calls Try.prog 80 #[.agg #[.int .i64 e0, .int .i64 e1]] w fun e w' => e = .returned (.agg #[.int .i64 r1, .int .i64 r2]) ∧ Below w.heap.size w w' := by
 have ar0 := Try.underlying101; have ar1 := Try.underlying46; have HB := Aside0.mk (Below.refl w.heap.size w); have H : (some (e0, e1)) = some (r1, r2) := h; clear h; simp only [Option.some.injEq, Prod.mk.injEq] at H; obtain ⟨rfl, rfl⟩ := H
 go_enter Try.func80, Try.ntmps80
 go_wp2_with (first | ((with_reducible refine gate_dst (N := 1) rfl ?_); refine bxe_ (N := 1) (cs := #[.int .i64 e0, .int .i64 e1]) (t := 101) ?_; intro c0 hg w2 x hb; have n_ := A4_ (below_step zq54_ hb) (x) ((zq81_ : w.heap.size ≤ c0)) ((zq81_ : w.heap.size ≤ c0)); clear HB; obtain ⟨HB, b0, z0, j0⟩ := n_; clear hb x hg) | ((with_reducible refine gate_dst (N := 2) rfl ?_); refine bxe_ (N := 2) (cs := #[.int .i64 0, .int .i64 0]) (t := 46) ?_; intro c1 hg w3 x hb; have n_ := A7_ (blk_below (g := c0) (o := .cells #[.int .i64 e0, .int .i64 e1] 101 (0, 0)) zq19_ hb) (below_step zq4c_ hb) (x) ((zq7d_ : w.heap.size ≤ c1)) ((zq7d_ : w.heap.size ≤ c1)) ((zq95_ : c0 ≠ c1)) ((zq84_ : c1 ≠ c0)); clear b0 HB; obtain ⟨b0, HB, b1, z1, j1, f0, f1⟩ := n_; clear hb x hg) | ((with_reducible refine gate_dst (N := 3) rfl ?_); refine bxe_ (N := 3) (cs := #[.int .i64 0, .int .i64 0]) (t := 46) ?_; intro c2 hg w4 x hb; have d0 := Aside0.mk (blk_below (g := c0) (o := .cells #[.int .i64 e0, .int .i64 e1] 101 (0, 0)) zq19_ hb); have d1 := Aside0.mk (blk_below (g := c1) (o := .cells #[.int .i64 0, .int .i64 0] 46 (0, 0)) zq1a_ hb); have d2 := Aside0.mk (below_step zq4b_ hb); have d3 := Aside0.mk (x); have d4 := Aside0.mk ((by rw [hg]; exact (below_size zq4b_) : w.heap.size ≤ c2)); have d5 := Aside0.mk ((by rw [hg]; exact (below_size zq4b_) : w.heap.size ≤ c2)); have d6 := Aside0.mk ((zq95_ : c0 ≠ c2)); have d7 := Aside0.mk ((zq84_ : c2 ≠ c0)); have d8 := Aside0.mk ((by rw [hg]; exact Nat.ne_of_lt (blk_lt (g := c1) (o := .cells #[.int .i64 0, .int .i64 0] 46 (0, 0)) zq1a_) : c1 ≠ c2)); have d9 := Aside0.mk ((by rw [hg]; exact Nat.ne_of_gt (blk_lt (g := c1) (o := .cells #[.int .i64 0, .int .i64 0] 46 (0, 0)) zq1a_) : c2 ≠ c1)); clear b0; clear b1; clear HB; have b0 := d0; have b1 := d1; have HB := d2; have b2 := d3; have z2 := d4; have j2 := d5; have f2 := d6; have f3 := d7; have f4 := d8; have f5 := d9; clear d0 d1 d2 d3 d4 d5 d6 d7 d8 d9; clear hb x hg; have J0 := f0.out; have K0 := f1.out; have J1 := f2.out; have K1 := f3.out; obtain ⟨g0, g1, h0, h1⟩ := bz2_ b0.out; have J2 := f5.out; have K2 := f4.out; obtain ⟨g2, g3, h2, h3⟩ := bz2_ b2.out; obtain ⟨g4, g5, h4, h5⟩ := bz2_ b1.out))
 refine bodyPost_ret (results_cell_row rfl _ _ c1 46 #[.int .i64 e0, .int .i64 e1] (0, 0) _ rfl (by (with_reducible repeat (first | refine blk_drewN ?_ _ | refine blk_drew ?_ | refine blk_alloc ?_ _)); refine blk_put (cs := #[.int .i64 e0, .int .i64 0]) ?_ 1 _ rfl; (with_reducible repeat (first | refine blk_drewN ?_ _ | refine blk_drew ?_ | refine blk_alloc ?_ _)); refine blk_put (cs := #[.int .i64 0, .int .i64 0]) ?_ 0 _ rfl; (with_reducible repeat (first | refine blk_drewN ?_ _ | refine blk_drew ?_ | refine blk_alloc ?_ _)); refine blk_far ?_ f4.out _; (with_reducible repeat (first | refine blk_drewN ?_ _ | refine blk_drew ?_ | refine blk_alloc ?_ _)); refine blk_far ?_ f4.out _; (with_reducible repeat (first | refine blk_drewN ?_ _ | refine blk_drew ?_ | refine blk_alloc ?_ _)); exact b1.out) Try.underlying46 rfl (by kernel_rfl)) rfl ?_; exact ⟨zq44_, zq4a_⟩

/-! ### laws_toBoxS: function 32 -/
def laws_toBoxS.l0 : Nat → List (S101) → List (S46) → Int → Option ((List (S46)))
 | 0, _, _, _ => none
 | k + 1, x0, x3, x4 => if x4 < (x0.length : Int) then (if 0 ≤ x4 then ((laws_toBox.f ((rd_T101 x0 x4).f0) ((rd_T101 x0 x4).f1)).bind fun bt228 => (if x4 < (x3.length : Int) then (laws_toBoxS.l0 k x0 (x3.set (x4 : Int).toNat (⟨bt228.1, bt228.2⟩ : S46)) (wrap64 (x4 + 1))) else (none))) else (none)) else (some x3)
def laws_toBoxS.f (k : Nat) (l0 : List (S101)) : Option ((List (S46))) := if 0 ≤ (l0.length : Int) then (if ((l0.length : Int) : Int).toNat ≤ 17592186044416 then (laws_toBoxS.l0 k l0 (List.replicate ((l0.length : Int) : Int).toNat z46) 0) else (none)) else (none)
theorem laws_toBoxS.mono_l : ∀ k, (∀ y0 y1 y2, LeO (laws_toBoxS.l0 k y0 y1 y2) (laws_toBoxS.l0 (k + 1) y0 y1 y2))
 | 0 => fun _ _ _ r h => by simp [laws_toBoxS.l0] at h
 | k + 1 => by
  have E0 := laws_toBoxS.mono_l k
  ·intro y0 y1 y2
   unfold laws_toBoxS.l0
   repeat' first
   | (with_reducible exact E0 _ _ _)
   | (with_reducible exact LeO.refl _)
   | (with_reducible exact LeO.none _)
   | (with_reducible refine LeO.ite ?_ ?_)
   | (with_reducible refine LeO.bind ?_ (fun _ => ?_))
   | exact E0 _ _ _
   | exact LeO.none _
   | refine LeO.ite ?_ ?_
   | refine LeO.bind ?_ (fun _ => ?_)
theorem laws_toBoxS.mono : ∀ a0 k, LeO (laws_toBoxS.f k a0) (laws_toBoxS.f (k + 1) a0) := by
 intro a0 k
 have E0 := laws_toBoxS.mono_l k
 unfold laws_toBoxS.f
 repeat' first
   | (with_reducible exact E0 _ _ _)
   | (with_reducible exact LeO.refl _)
   | (with_reducible exact LeO.none _)
   | (with_reducible refine LeO.ite ?_ ?_)
   | (with_reducible refine LeO.bind ?_ (fun _ => ?_))
   | exact E0 _ _ _
   | exact LeO.none _
   | refine LeO.ite ?_ ?_
   | refine LeO.bind ?_ (fun _ => ?_)
set_option maxHeartbeats 8000000 in
set_option maxRecDepth 100000 in
theorem laws_toBoxS.calls (k : Nat) (A0 : Option Addr) (c0 : Nat) (l0 : List (S101)) (r : List (S46)) (w : World) (V0 : Kd.C k101 w A0 l0.length l0) (S0 : l0.length ≤ c0) (h : laws_toBoxS.f k l0 = some r) :
  Calls Try.prog 32 #[.slice A0 l0.length c0] w fun e w' => ∃ v0_ : Value, e = .returned (v0_) ∧ Kd.R k46 46 w' w.heap.size (fun _ => True) v0_ r ∧ Below w.heap.size w w' := by
 have ar0 := Try.underlying101; have ar1 := Try.underlying46; have R0 := Aside0.mk V0; have X0 := Aside0.mk S0; clear V0 S0; have HB := Aside0.mk (Below.refl w.heap.size w); have H : (if 0 ≤ (l0.length : Int) then (if ((l0.length : Int) : Int).toNat ≤ 17592186044416 then (laws_toBoxS.l0 k l0 (List.replicate ((l0.length : Int) : Int).toNat z46) 0) else (none)) else (none)) = some r := h; clear h; replace H := ifp_ H; obtain ⟨c2, H⟩ := H; have r0 := eq_true c2; have r1 : decide (0 ≤ (l0.length : Int)) = true := decide_eq_true c2; clear c2; replace H := ifp_ H; obtain ⟨c3, H⟩ := H; have r2 := eq_true c3; have r3 : decide (((l0.length : Int) : Int).toNat ≤ 17592186044416) = true := decide_eq_true c3; clear c3; obtain ⟨A1, H0⟩ : ∃ y_ : List (S46), y_ = (List.replicate ((l0.length : Int) : Int).toNat z46) := ⟨_, rfl⟩; replace H : (laws_toBoxS.l0 k l0 A1 0) = some r := by first | (rw [H0]; with_reducible exact H) | (have Z0 := (Option.bind_some _ _).symm.trans H; rw [H0]; with_reducible exact Z0) | (have Z0 := (Option.bind_some _ _).symm.trans H; with_reducible exact Z0) | with_reducible exact H | (rw [H0]; exact H) | exact H
 have am0 := Aside0.mk H0; clear H0; have H' := Aside0.mk H; clear H
 go_enter Try.func32, Try.ntmps32
 go_wp2_with (first | ((with_reducible refine gate_dst (N := 7) rfl ?_); refine Kd.R_make k46 _ 46 rfl (N := 7) rfl 23 _ _ rfl (l0.length : Int) rfl rfl Try.underlying23 (.agg #[(.int .i64 0), (.int .i64 0)]) 16 info46 rfl (by decide) (by omega) z46 (ok := fun _ => True) (okp := fun _ => True) (k46_mkM _ _ _ z46 ) (fun _ hk => hk) trivial (of_decide_eq_true zq40_) (Nat.le_trans (Nat.mul_le_mul_right _ (of_decide_eq_true zq40_ : (l0.length : Int).toNat ≤ 17592186044416)) (by omega)) (Below.refl _ _) (Nat.le_refl _) ?_; intro af0 w4 G0 hb aP aQ; clear aP aQ; (first | rw [← am0.out] at G0 | (simp only [Int.reduceToNat] at G0; rw [← am0.out] at G0)); have n_ := A2_ (Kd.R_lower G0 (below_size zq54_)) (below_step zq54_ hb); clear HB; obtain ⟨m0, HB⟩ := n_; clear hb G0))
 go_loopg [4] k (fun kq v4 w' => ∃ (a0 : List (S46)) (a1 : Int), v4 = .int .i64 a1 ∧ Aside0 (laws_toBoxS.l0 kq l0 a0 a1 = some r) ∧ Aside0 (kq ≤ k) ∧ Aside0 (Kd.R k46 46 w' w.heap.size (fun _ => True) af0 a0) ∧ Aside0 (Below w.heap.size w w'))
 case atStart => exact ⟨(A1), (0), zq45_, H', ⟨Nat.le_refl _⟩, ⟨zqe_⟩, ⟨zq54_⟩⟩
 case round =>
  clear H'
  try clear c2
  try clear r0
  try clear r1
  try clear p2
  try clear c3
  try clear r2
  try clear r3
  obtain ⟨a0, a1, rfl, HA, ae0, k0, HB⟩ := hrel
  cases gk with
  | zero => exact absurd HA.out (by simp [laws_toBoxS.l0])
  | succ k1 =>
   have H := HA.out; clear HA; simp only [laws_toBoxS.l0] at H; replace H := ifc_ H
   rcases H with ⟨c6b0, H⟩ | ⟨c6b0, H⟩
   ·replace H := ifd_ H; obtain ⟨r4, H⟩ := H; replace H := Option.bind_eq_some_iff.mp H; obtain ⟨⟨i0, i1⟩, F0, H⟩ := H; (try dsimp only at H); have A8 := Aside0.mk F0; clear F0; replace H := ifd_ H; obtain ⟨r5, H⟩ := H; obtain ⟨A2, H1⟩ : ∃ y_ : List (S46), y_ = (a0.set (a1 : Int).toNat (⟨i0, i1⟩ : S46)) := ⟨_, rfl⟩; replace H : (laws_toBoxS.l0 k1 l0 A2 (wrap64 (a1 + 1))) = some r := by first | (rw [H1]; with_reducible exact H) | (have Z0 := (Option.bind_some _ _).symm.trans H; rw [H1]; with_reducible exact Z0) | (have Z0 := (Option.bind_some _ _).symm.trans H; with_reducible exact Z0) | with_reducible exact H | (rw [H1]; exact H) | exact H
    have am1 := Aside0.mk H1; clear H1; have H' := Aside0.mk H; clear H; have s0 : 0 ≤ (a1 : Int) := of_decide_eq_true zq40_; have t0 : a1 < (l0.length : Int) := of_decide_eq_true zq40_; obtain ⟨y0, N0, p0, p1⟩ := at_T101 R0.out a1 s0 t0; cases N0; replace p0 := pb_ HB.out p0; replace p1 := pb_ HB.out p1; replace s0 := eq_true s0; replace t0 := eq_true t0
    go_wp2_with (first | ((with_reducible refine gate_callee (f := 80) rfl ?_); refine gl_ 20 Try.func80 #[.agg #[.int .i64 ((rd_T101 l0 a1).f0), .int .i64 ((rd_T101 l0 a1).f1)]] ?_; (with_reducible refine (laws_toBox.calls ((rd_T101 l0 a1).f0) ((rd_T101 l0 a1).f1) i0 i1 _ A8.out).mono ?_); rintro e q0 ⟨rfl, hb⟩; refine ⟨_, rfl, ?_⟩; have n_ := A2_ (Kd.R_below zqb_ hb) (below_step zq54_ hb); clear k0 HB; obtain ⟨k0, HB⟩ := n_; (try clear hb); have s1 : 0 ≤ (a1 : Int) := of_decide_eq_true zq40_; have t1 : (a1 : Int) < ((a0.length : Int) : Int) := of_decide_eq_true zq40_; obtain ⟨L0, l1, D0, c1, aJ0, ba0, au0⟩ := Kd.R_form k0.out (by omega); (first | cases D0 | (injection D0 with ak aF aG; (first | subst ak | (injection ak with ak; subst ak)); subst aG; clear aF)); have ay0 := Aside0.mk c1; have aO0 := Aside0.mk au0; clear c1 aJ0 au0; obtain ⟨aK0, an0, ag0, Y0, ab0⟩ := Kd.R_elem k0.out z46 (a1 : Int) s1 t1; obtain rfl := k46_openM ag0; have p3 : q0.cell? ⟨L0, (a1 : Int).toNat * 2, none⟩ = some (.int .i64 ((rd_T46 a0 a1).f0)) := Y0 0 _ rfl; have p4 : q0.cell? ⟨L0, (a1 : Int).toNat * 2 + 1, none⟩ = some (.int .i64 ((rd_T46 a0 a1).f1)) := Y0 1 _ rfl; have ah0 : q0.frozen? ⟨L0, (a1 : Int).toNat * 2, none⟩ = false := ab0 0; have ah1 : q0.frozen? ⟨L0, (a1 : Int).toNat * 2 + 1, none⟩ = false := ab0 1; clear an0 Y0 ab0 ag0; replace s1 := eq_true s1; replace t1 := eq_true t1; have aE0 := Aside0.mk (show Kd.R k46 46 q0 w.heap.size (fun _ => True) (.slice (some ⟨L0, 0, none⟩) a0.length l1) a0 from zqb_); obtain ⟨aK1, an1, ag1, Y1, ab1⟩ := Kd.R_elem aE0.out z46 (a1 : Int) (of_decide_eq_true zq40_) zq76_; obtain rfl := k46_openM ag1; have aj0 := Kd.R_seg aE0.out (a1 : Int) (of_decide_eq_true zq40_) zq76_ (seg := [.int .i64 i0, .int .i64 i1]) (j := 0) an1 Y1 (show 2 ≤ 2 from by decide) (x' := (⟨i0, i1⟩ : S46)) (k46_mkM _ _ _ (⟨i0, i1⟩ : S46) ) (fun _ hk => hk); have p5 := Y1 0 _ rfl; (try simp only [show (k46).sz = 2 from rfl, Nat.mul_one, Nat.add_zero] at p5); have ah2 := ab1 0; (try simp only [show (k46).sz = 2 from rfl, Nat.mul_one, Nat.add_zero] at ah2); have p6 := Y1 1 _ rfl; (try simp only [show (k46).sz = 2 from rfl, Nat.mul_one, Nat.add_zero] at p6); have ah3 := ab1 1; (try simp only [show (k46).sz = 2 from rfl, Nat.mul_one, Nat.add_zero] at ah3); clear an1 Y1 ab1 ag1) | ((with_reducible refine gate_store (t := 46) (p := 21) rfl ?_); refine store_event (t := 46) (p := 21) (v := ?vo_w13) (w1 := ((q0.setCell ⟨L0, (a1 : Int).toNat * 2, none⟩ (.int .i64 i0)).setCell ⟨L0, (a1 : Int).toNat * 2 + 1, none⟩ (.int .i64 i1))) ?hg ?ho ?hn ?hr ?_; (case ho => rfl); (case hg => rfl); (case hn => rfl); (case hr => first | (go_simp; done) | (go_simp; rfl)); intro q1 hw; have hg : q0.grownBy q1 (some L0) := (by rw [hw]; exact aj0.2); have az : Kd.R k46 46 q1 w.heap.size (fun _ => True) (.slice (some ⟨L0, 0, none⟩) a0.length l1) A2 := (by rw [hw, am1.out]; exact aj0.1); clear aj0; have n_ := A2_ (az) ((by rw [hw]; exact below_set (below_set (HB.out) ay0.out) ay0.out : Below w.heap.size w q1)); clear k0 HB; obtain ⟨k0, HB⟩ := n_; clear hg hw az))
    go_roundg k1
    case measure => have := ae0.out; omega
    case rel => exact ⟨(A2), (wrap64 (a1 + 1)), zq45_, H', ⟨by have := ae0.out; omega⟩, ⟨zqb_⟩, ⟨zq54_⟩⟩
   ·obtain rfl := Option.some.inj H
    go_wp2
    go_ret
    exact ⟨_, zq44_, zqb_, zq54_⟩

/-! ### laws_toIns: function 81 -/
def laws_toIns.f (a0_0 : Int) (a0_1 : Int) (a0_2 : Int) (a0_3 : Int) : Option (Int × Int × Int × Int) := some (a0_0, a0_1, a0_2, a0_3)
set_option maxHeartbeats 8000000 in
set_option maxRecDepth 100000 in
theorem laws_toIns.calls (e0 : Int) (e1 : Int) (e2 : Int) (e3 : Int) (r1 : Int) (r2 : Int) (r3 : Int) (r4 : Int) (w : World) (h : laws_toIns.f e0 e1 e2 e3 = some (r1, r2, r3, r4)) :
  Calls Try.prog 81 #[.agg #[.int .i64 e0, .int .i64 e1, .int .i64 e2, .int .i64 e3]] w fun e w' => e = .returned (.agg #[.int .i64 r1, .int .i64 r2, .int .i64 r3, .int .i64 r4]) ∧ Below w.heap.size w w' := by
 have ar0 := Try.underlying103; have ar1 := Try.underlying34; have HB := Aside0.mk (Below.refl w.heap.size w); have H : (some (e0, e1, e2, e3)) = some (r1, r2, r3, r4) := h; clear h; simp only [Option.some.injEq, Prod.mk.injEq] at H; obtain ⟨rfl, rfl, rfl, rfl⟩ := H
 go_enter Try.func81, Try.ntmps81
 go_wp2_with (first | ((with_reducible refine gate_dst (N := 1) rfl ?_); refine bxe_ (N := 1) (cs := #[.int .i64 e0, .int .i64 e1, .int .i64 e2, .int .i64 e3]) (t := 103) ?_; intro c0 hg w2 x hb; have n_ := A4_ (below_step zq54_ hb) (x) ((zq81_ : w.heap.size ≤ c0)) ((zq81_ : w.heap.size ≤ c0)); clear HB; obtain ⟨HB, b0, z0, j0⟩ := n_; clear hb x hg) | ((with_reducible refine gate_dst (N := 2) rfl ?_); refine bxe_ (N := 2) (cs := #[.int .i64 0, .int .i64 0, .int .i64 0, .int .i64 0]) (t := 34) ?_; intro c1 hg w3 x hb; have n_ := A7_ (blk_below (g := c0) (o := .cells #[.int .i64 e0, .int .i64 e1, .int .i64 e2, .int .i64 e3] 103 (0, 0)) zq19_ hb) (below_step zq4c_ hb) (x) ((zq7d_ : w.heap.size ≤ c1)) ((zq7d_ : w.heap.size ≤ c1)) ((zq93_ : c0 ≠ c1)) ((zq82_ : c1 ≠ c0)); clear b0 HB; obtain ⟨b0, HB, b1, z1, j1, f0, f1⟩ := n_; clear hb x hg) | ((with_reducible refine gate_dst (N := 3) rfl ?_); refine bxe_ (N := 3) (cs := #[.int .i64 0, .int .i64 0, .int .i64 0, .int .i64 0]) (t := 34) ?_; intro c2 hg w4 x hb; have d0 := Aside0.mk (blk_below (g := c0) (o := .cells #[.int .i64 e0, .int .i64 e1, .int .i64 e2, .int .i64 e3] 103 (0, 0)) zq19_ hb); have d1 := Aside0.mk (blk_below (g := c1) (o := .cells #[.int .i64 0, .int .i64 0, .int .i64 0, .int .i64 0] 34 (0, 0)) zq1a_ hb); have d2 := Aside0.mk (below_step zq4b_ hb); have d3 := Aside0.mk (x); have d4 := Aside0.mk ((by rw [hg]; exact (below_size zq4b_) : w.heap.size ≤ c2)); have d5 := Aside0.mk ((by rw [hg]; exact (below_size zq4b_) : w.heap.size ≤ c2)); have d6 := Aside0.mk ((zq93_ : c0 ≠ c2)); have d7 := Aside0.mk ((zq82_ : c2 ≠ c0)); have d8 := Aside0.mk ((by rw [hg]; exact Nat.ne_of_lt (blk_lt (g := c1) (o := .cells #[.int .i64 0, .int .i64 0, .int .i64 0, .int .i64 0] 34 (0, 0)) zq1a_) : c1 ≠ c2)); have d9 := Aside0.mk ((by rw [hg]; exact Nat.ne_of_gt (blk_lt (g := c1) (o := .cells #[.int .i64 0, .int .i64 0, .int .i64 0, .int .i64 0] 34 (0, 0)) zq1a_) : c2 ≠ c1)); clear b0; clear b1; clear HB; have b0 := d0; have b1 := d1; have HB := d2; have b2 := d3; have z2 := d4; have j2 := d5; have f2 := d6; have f3 := d7; have f4 := d8; have f5 := d9; clear d0 d1 d2 d3 d4 d5 d6 d7 d8 d9; clear hb x hg; have J0 := f0.out; have K0 := f1.out; have J1 := f2.out; have K1 := f3.out; obtain ⟨g0, g1, g2, g3, h0, h1, h2, h3⟩ := bz4_ b0.out; have J2 := f5.out; have K2 := f4.out; obtain ⟨g4, g5, g6, g7, h4, h5, h6, h7⟩ := bz4_ b2.out; obtain ⟨g8, g9, g10, g11, h8, h9, h10, h11⟩ := bz4_ b1.out))
 refine bodyPost_ret (results_cell_row rfl _ _ c1 34 #[.int .i64 e0, .int .i64 e1, .int .i64 e2, .int .i64 e3] (0, 0) _ rfl (by (with_reducible repeat (first | refine blk_drewN ?_ _ | refine blk_drew ?_ | refine blk_alloc ?_ _)); refine blk_put (cs := #[.int .i64 e0, .int .i64 e1, .int .i64 e2, .int .i64 0]) ?_ 3 _ rfl; (with_reducible repeat (first | refine blk_drewN ?_ _ | refine blk_drew ?_ | refine blk_alloc ?_ _)); refine blk_put (cs := #[.int .i64 e0, .int .i64 e1, .int .i64 0, .int .i64 0]) ?_ 2 _ rfl; (with_reducible repeat (first | refine blk_drewN ?_ _ | refine blk_drew ?_ | refine blk_alloc ?_ _)); refine blk_put (cs := #[.int .i64 e0, .int .i64 0, .int .i64 0, .int .i64 0]) ?_ 1 _ rfl; (with_reducible repeat (first | refine blk_drewN ?_ _ | refine blk_drew ?_ | refine blk_alloc ?_ _)); refine blk_put (cs := #[.int .i64 0, .int .i64 0, .int .i64 0, .int .i64 0]) ?_ 0 _ rfl; (with_reducible repeat (first | refine blk_drewN ?_ _ | refine blk_drew ?_ | refine blk_alloc ?_ _)); refine blk_far ?_ f4.out _; (with_reducible repeat (first | refine blk_drewN ?_ _ | refine blk_drew ?_ | refine blk_alloc ?_ _)); refine blk_far ?_ f4.out _; (with_reducible repeat (first | refine blk_drewN ?_ _ | refine blk_drew ?_ | refine blk_alloc ?_ _)); refine blk_far ?_ f4.out _; (with_reducible repeat (first | refine blk_drewN ?_ _ | refine blk_drew ?_ | refine blk_alloc ?_ _)); refine blk_far ?_ f4.out _; (with_reducible repeat (first | refine blk_drewN ?_ _ | refine blk_drew ?_ | refine blk_alloc ?_ _)); exact b1.out) Try.underlying34 rfl (by kernel_rfl)) rfl ?_; exact ⟨zq44_, zq4a_⟩

/-! ### laws_toInsS: function 33 -/
def laws_toInsS.l0 : Nat → List (S103) → List (S34) → Int → Option ((List (S34)))
 | 0, _, _, _ => none
 | k + 1, x0, x3, x4 => if x4 < (x0.length : Int) then (if 0 ≤ x4 then ((laws_toIns.f ((rd_T103 x0 x4).f0) ((rd_T103 x0 x4).f1) ((rd_T103 x0 x4).f2) ((rd_T103 x0 x4).f3)).bind fun bt238 => (if x4 < (x3.length : Int) then (laws_toInsS.l0 k x0 (x3.set (x4 : Int).toNat (⟨bt238.1, bt238.2.1, bt238.2.2.1, bt238.2.2.2⟩ : S34)) (wrap64 (x4 + 1))) else (none))) else (none)) else (some x3)
def laws_toInsS.f (k : Nat) (l0 : List (S103)) : Option ((List (S34))) := if 0 ≤ (l0.length : Int) then (if ((l0.length : Int) : Int).toNat ≤ 8796093022208 then (laws_toInsS.l0 k l0 (List.replicate ((l0.length : Int) : Int).toNat z34) 0) else (none)) else (none)
theorem laws_toInsS.mono_l : ∀ k, (∀ y0 y1 y2, LeO (laws_toInsS.l0 k y0 y1 y2) (laws_toInsS.l0 (k + 1) y0 y1 y2))
 | 0 => fun _ _ _ r h => by simp [laws_toInsS.l0] at h
 | k + 1 => by
  have E0 := laws_toInsS.mono_l k
  ·intro y0 y1 y2
   unfold laws_toInsS.l0
   repeat' first
   | (with_reducible exact E0 _ _ _)
   | (with_reducible exact LeO.refl _)
   | (with_reducible exact LeO.none _)
   | (with_reducible refine LeO.ite ?_ ?_)
   | (with_reducible refine LeO.bind ?_ (fun _ => ?_))
   | exact E0 _ _ _
   | exact LeO.none _
   | refine LeO.ite ?_ ?_
   | refine LeO.bind ?_ (fun _ => ?_)
theorem laws_toInsS.mono : ∀ a0 k, LeO (laws_toInsS.f k a0) (laws_toInsS.f (k + 1) a0) := by
 intro a0 k
 have E0 := laws_toInsS.mono_l k
 unfold laws_toInsS.f
 repeat' first
   | (with_reducible exact E0 _ _ _)
   | (with_reducible exact LeO.refl _)
   | (with_reducible exact LeO.none _)
   | (with_reducible refine LeO.ite ?_ ?_)
   | (with_reducible refine LeO.bind ?_ (fun _ => ?_))
   | exact E0 _ _ _
   | exact LeO.none _
   | refine LeO.ite ?_ ?_
   | refine LeO.bind ?_ (fun _ => ?_)
set_option maxHeartbeats 8000000 in
set_option maxRecDepth 100000 in
theorem laws_toInsS.calls (k : Nat) (A0 : Option Addr) (c0 : Nat) (l0 : List (S103)) (r : List (S34)) (w : World) (V0 : Kd.C k103 w A0 l0.length l0) (S0 : l0.length ≤ c0) (h : laws_toInsS.f k l0 = some r) :
  Calls Try.prog 33 #[.slice A0 l0.length c0] w fun e w' => ∃ v0_ : Value, e = .returned (v0_) ∧ Kd.R k34 34 w' w.heap.size (fun _ => True) v0_ r ∧ Below w.heap.size w w' := by
 have ar0 := Try.underlying103; have ar1 := Try.underlying34; have R0 := Aside0.mk V0; have X0 := Aside0.mk S0; clear V0 S0; have HB := Aside0.mk (Below.refl w.heap.size w); have H : (if 0 ≤ (l0.length : Int) then (if ((l0.length : Int) : Int).toNat ≤ 8796093022208 then (laws_toInsS.l0 k l0 (List.replicate ((l0.length : Int) : Int).toNat z34) 0) else (none)) else (none)) = some r := h; clear h; replace H := ifp_ H; obtain ⟨c2, H⟩ := H; have r0 := eq_true c2; have r1 : decide (0 ≤ (l0.length : Int)) = true := decide_eq_true c2; clear c2; replace H := ifp_ H; obtain ⟨c3, H⟩ := H; have r2 := eq_true c3; have r3 : decide (((l0.length : Int) : Int).toNat ≤ 8796093022208) = true := decide_eq_true c3; clear c3; obtain ⟨A1, H0⟩ : ∃ y_ : List (S34), y_ = (List.replicate ((l0.length : Int) : Int).toNat z34) := ⟨_, rfl⟩; replace H : (laws_toInsS.l0 k l0 A1 0) = some r := by first | (rw [H0]; with_reducible exact H) | (have Z0 := (Option.bind_some _ _).symm.trans H; rw [H0]; with_reducible exact Z0) | (have Z0 := (Option.bind_some _ _).symm.trans H; with_reducible exact Z0) | with_reducible exact H | (rw [H0]; exact H) | exact H
 have am0 := Aside0.mk H0; clear H0; have H' := Aside0.mk H; clear H
 go_enter Try.func33, Try.ntmps33
 go_wp2_with (first | ((with_reducible refine gate_dst (N := 7) rfl ?_); refine Kd.R_make k34 _ 34 rfl (N := 7) rfl 24 _ _ rfl (l0.length : Int) rfl rfl Try.underlying24 (.agg #[(.int .i64 0), (.int .i64 0), (.int .i64 0), (.int .i64 0)]) 32 info34 rfl (by decide) (by omega) z34 (ok := fun _ => True) (okp := fun _ => True) (k34_mkM _ _ _ z34 ) (fun _ hk => hk) trivial (of_decide_eq_true zq40_) (Nat.le_trans (Nat.mul_le_mul_right _ (of_decide_eq_true zq40_ : (l0.length : Int).toNat ≤ 8796093022208)) (by omega)) (Below.refl _ _) (Nat.le_refl _) ?_; intro af0 w4 G0 hb aP aQ; clear aP aQ; (first | rw [← am0.out] at G0 | (simp only [Int.reduceToNat] at G0; rw [← am0.out] at G0)); have n_ := A2_ (Kd.R_lower G0 (below_size zq54_)) (below_step zq54_ hb); clear HB; obtain ⟨m0, HB⟩ := n_; clear hb G0))
 go_loopg [4] k (fun kq v4 w' => ∃ (a0 : List (S34)) (a1 : Int), v4 = .int .i64 a1 ∧ Aside0 (laws_toInsS.l0 kq l0 a0 a1 = some r) ∧ Aside0 (kq ≤ k) ∧ Aside0 (Kd.R k34 34 w' w.heap.size (fun _ => True) af0 a0) ∧ Aside0 (Below w.heap.size w w'))
 case atStart => exact ⟨(A1), (0), zq45_, H', ⟨Nat.le_refl _⟩, ⟨zqe_⟩, ⟨zq54_⟩⟩
 case round =>
  clear H'
  try clear c2
  try clear r0
  try clear r1
  try clear p2
  try clear c3
  try clear r2
  try clear r3
  obtain ⟨a0, a1, rfl, HA, ae0, k0, HB⟩ := hrel
  cases gk with
  | zero => exact absurd HA.out (by simp [laws_toInsS.l0])
  | succ k1 =>
   have H := HA.out; clear HA; simp only [laws_toInsS.l0] at H; replace H := ifc_ H
   rcases H with ⟨c6b0, H⟩ | ⟨c6b0, H⟩
   ·replace H := ifd_ H; obtain ⟨r4, H⟩ := H; replace H := Option.bind_eq_some_iff.mp H; obtain ⟨⟨i0, i1, i2, i3⟩, F0, H⟩ := H; (try dsimp only at H); have A8 := Aside0.mk F0; clear F0; replace H := ifd_ H; obtain ⟨r5, H⟩ := H; obtain ⟨A2, H1⟩ : ∃ y_ : List (S34), y_ = (a0.set (a1 : Int).toNat (⟨i0, i1, i2, i3⟩ : S34)) := ⟨_, rfl⟩; replace H : (laws_toInsS.l0 k1 l0 A2 (wrap64 (a1 + 1))) = some r := by first | (rw [H1]; with_reducible exact H) | (have Z0 := (Option.bind_some _ _).symm.trans H; rw [H1]; with_reducible exact Z0) | (have Z0 := (Option.bind_some _ _).symm.trans H; with_reducible exact Z0) | with_reducible exact H | (rw [H1]; exact H) | exact H
    have am1 := Aside0.mk H1; clear H1; have H' := Aside0.mk H; clear H; have s0 : 0 ≤ (a1 : Int) := of_decide_eq_true zq40_; have t0 : a1 < (l0.length : Int) := of_decide_eq_true zq40_; obtain ⟨y0, N0, p0, p1, p3, p4⟩ := at_T103 R0.out a1 s0 t0; cases N0; replace p0 := pb_ HB.out p0; replace p1 := pb_ HB.out p1; replace p3 := pb_ HB.out p3; replace p4 := pb_ HB.out p4; replace s0 := eq_true s0; replace t0 := eq_true t0
    go_wp2_with (first | ((with_reducible refine gate_callee (f := 81) rfl ?_); refine gl_ 20 Try.func81 #[.agg #[.int .i64 ((rd_T103 l0 a1).f0), .int .i64 ((rd_T103 l0 a1).f1), .int .i64 ((rd_T103 l0 a1).f2), .int .i64 ((rd_T103 l0 a1).f3)]] ?_; (with_reducible refine (laws_toIns.calls ((rd_T103 l0 a1).f0) ((rd_T103 l0 a1).f1) ((rd_T103 l0 a1).f2) ((rd_T103 l0 a1).f3) i0 i1 i2 i3 _ A8.out).mono ?_); rintro e q0 ⟨rfl, hb⟩; refine ⟨_, rfl, ?_⟩; have n_ := A2_ (Kd.R_below zqb_ hb) (below_step zq54_ hb); clear k0 HB; obtain ⟨k0, HB⟩ := n_; (try clear hb); have s1 : 0 ≤ (a1 : Int) := of_decide_eq_true zq40_; have t1 : (a1 : Int) < ((a0.length : Int) : Int) := of_decide_eq_true zq40_; obtain ⟨L0, l1, D0, c1, aJ0, ba0, au0⟩ := Kd.R_form k0.out (by omega); (first | cases D0 | (injection D0 with ak aF aG; (first | subst ak | (injection ak with ak; subst ak)); subst aG; clear aF)); have ay0 := Aside0.mk c1; have aO0 := Aside0.mk au0; clear c1 aJ0 au0; obtain ⟨aK0, an0, ag0, Y0, ab0⟩ := Kd.R_elem k0.out z34 (a1 : Int) s1 t1; obtain rfl := k34_openM ag0; have p5 : q0.cell? ⟨L0, (a1 : Int).toNat * 4, none⟩ = some (.int .i64 ((rd_T34 a0 a1).f0)) := Y0 0 _ rfl; have p6 : q0.cell? ⟨L0, (a1 : Int).toNat * 4 + 1, none⟩ = some (.int .i64 ((rd_T34 a0 a1).f1)) := Y0 1 _ rfl; have p7 : q0.cell? ⟨L0, (a1 : Int).toNat * 4 + 2, none⟩ = some (.int .i64 ((rd_T34 a0 a1).f2)) := Y0 2 _ rfl; have p8 : q0.cell? ⟨L0, (a1 : Int).toNat * 4 + 3, none⟩ = some (.int .i64 ((rd_T34 a0 a1).f3)) := Y0 3 _ rfl; have ah0 : q0.frozen? ⟨L0, (a1 : Int).toNat * 4, none⟩ = false := ab0 0; have ah1 : q0.frozen? ⟨L0, (a1 : Int).toNat * 4 + 1, none⟩ = false := ab0 1; have ah2 : q0.frozen? ⟨L0, (a1 : Int).toNat * 4 + 2, none⟩ = false := ab0 2; have ah3 : q0.frozen? ⟨L0, (a1 : Int).toNat * 4 + 3, none⟩ = false := ab0 3; clear an0 Y0 ab0 ag0; replace s1 := eq_true s1; replace t1 := eq_true t1; have aE0 := Aside0.mk (show Kd.R k34 34 q0 w.heap.size (fun _ => True) (.slice (some ⟨L0, 0, none⟩) a0.length l1) a0 from zqb_); obtain ⟨aK1, an1, ag1, Y1, ab1⟩ := Kd.R_elem aE0.out z34 (a1 : Int) (of_decide_eq_true zq40_) zq76_; obtain rfl := k34_openM ag1; have aj0 := Kd.R_seg aE0.out (a1 : Int) (of_decide_eq_true zq40_) zq76_ (seg := [.int .i64 i0, .int .i64 i1, .int .i64 i2, .int .i64 i3]) (j := 0) an1 Y1 (show 4 ≤ 4 from by decide) (x' := (⟨i0, i1, i2, i3⟩ : S34)) (k34_mkM _ _ _ (⟨i0, i1, i2, i3⟩ : S34) ) (fun _ hk => hk); have p9 := Y1 0 _ rfl; (try simp only [show (k34).sz = 4 from rfl, Nat.mul_one, Nat.add_zero] at p9); have ah4 := ab1 0; (try simp only [show (k34).sz = 4 from rfl, Nat.mul_one, Nat.add_zero] at ah4); have p10 := Y1 1 _ rfl; (try simp only [show (k34).sz = 4 from rfl, Nat.mul_one, Nat.add_zero] at p10); have ah5 := ab1 1; (try simp only [show (k34).sz = 4 from rfl, Nat.mul_one, Nat.add_zero] at ah5); have p11 := Y1 2 _ rfl; (try simp only [show (k34).sz = 4 from rfl, Nat.mul_one, Nat.add_zero] at p11); have ah6 := ab1 2; (try simp only [show (k34).sz = 4 from rfl, Nat.mul_one, Nat.add_zero] at ah6); have p12 := Y1 3 _ rfl; (try simp only [show (k34).sz = 4 from rfl, Nat.mul_one, Nat.add_zero] at p12); have ah7 := ab1 3; (try simp only [show (k34).sz = 4 from rfl, Nat.mul_one, Nat.add_zero] at ah7); clear an1 Y1 ab1 ag1) | ((with_reducible refine gate_store (t := 34) (p := 21) rfl ?_); refine store_event (t := 34) (p := 21) (v := ?vo_w13) (w1 := ((((q0.setCell ⟨L0, (a1 : Int).toNat * 4, none⟩ (.int .i64 i0)).setCell ⟨L0, (a1 : Int).toNat * 4 + 1, none⟩ (.int .i64 i1)).setCell ⟨L0, (a1 : Int).toNat * 4 + 2, none⟩ (.int .i64 i2)).setCell ⟨L0, (a1 : Int).toNat * 4 + 3, none⟩ (.int .i64 i3))) ?hg ?ho ?hn ?hr ?_; (case ho => rfl); (case hg => rfl); (case hn => rfl); (case hr => first | (go_simp; done) | (go_simp; rfl)); intro q1 hw; have hg : q0.grownBy q1 (some L0) := (by rw [hw]; exact aj0.2); have az : Kd.R k34 34 q1 w.heap.size (fun _ => True) (.slice (some ⟨L0, 0, none⟩) a0.length l1) A2 := (by rw [hw, am1.out]; exact aj0.1); clear aj0; have n_ := A2_ (az) ((by rw [hw]; exact below_set (below_set (below_set (below_set (HB.out) ay0.out) ay0.out) ay0.out) ay0.out : Below w.heap.size w q1)); clear k0 HB; obtain ⟨k0, HB⟩ := n_; clear hg hw az))
    go_roundg k1
    case measure => have := ae0.out; omega
    case rel => exact ⟨(A2), (wrap64 (a1 + 1)), zq45_, H', ⟨by have := ae0.out; omega⟩, ⟨zqb_⟩, ⟨zq54_⟩⟩
   ·obtain rfl := Option.some.inj H
    go_wp2
    go_ret
    exact ⟨_, zq44_, zqb_, zq54_⟩

/-! ### impl_in: function 64 -/
def impl_in.f (a0 : Int) (a1 : Int) (a2 : Int) : Option (Bool) := if a0 ≥ a1 then (some (decide (a0 ≤ a2))) else (some false)
set_option maxHeartbeats 8000000 in
set_option maxRecDepth 100000 in
theorem impl_in.calls (a0 : Int) (a1 : Int) (a2 : Int) (r : Bool) (w : World) (h : impl_in.f a0 a1 a2 = some r) :
  Calls Try.prog 64 #[.int .i64 a0, .int .i64 a1, .int .i64 a2] w fun e w' => e = .returned (.bool r) ∧ Drawn0 w w' := by
 have H : (if a0 ≥ a1 then (some (decide (a0 ≤ a2))) else (some false)) = some r := h; clear h; replace H := ifc_ H
 rcases H with ⟨c4b0, H⟩ | ⟨c4b0, H⟩
 ·change decide (a1 ≤ a0) = true at c4b0; obtain rfl := Option.some.inj H
  go_enter Try.func64, Try.ntmps64
  go_wp2
  go_ret
  exact ⟨zq45_, zq67_⟩
 ·change decide (a1 ≤ a0) = false at c4b0; obtain rfl := Option.some.inj H
  go_enter Try.func64, Try.ntmps64
  go_wp2
  go_ret
  exact ⟨zq45_, zq67_⟩

/-! ### impl_BoxOk: function 25 -/
def impl_BoxOk.l0 : Nat → List (S46) → List (S46) → Int → Int → Option (Bool)
 | 0, _, _, _, _ => none
 | k + 1, x0, x5, x6, x7 => if x7 < x6 then (if 0 ≤ x7 then (if x7 < (x5.length : Int) then ((impl_in.f ((rd_T46 x5 x7).f0) 0 1000000).bind fun t245 => (if t245 = true then ((impl_in.f ((rd_T46 x5 x7).f1) (-1000000) 1000000).bind fun t246 => (if t246 = true then (impl_BoxOk.l0 k x0 x5 x6 (wrap64 (x7 + 1))) else (some false))) else (some false))) else (none)) else (none)) else (some ((x0.length : Int) == 4))
def impl_BoxOk.f (k : Nat) (l0 : List (S46)) : Option (Bool) := impl_BoxOk.l0 k l0 l0 (l0.length : Int) 0
theorem impl_BoxOk.mono_l : ∀ k, (∀ y0 y1 y2 y3, LeO (impl_BoxOk.l0 k y0 y1 y2 y3) (impl_BoxOk.l0 (k + 1) y0 y1 y2 y3))
 | 0 => fun _ _ _ _ r h => by simp [impl_BoxOk.l0] at h
 | k + 1 => by
  have E0 := impl_BoxOk.mono_l k
  ·intro y0 y1 y2 y3
   unfold impl_BoxOk.l0
   repeat' first
   | (with_reducible exact E0 _ _ _ _)
   | (with_reducible exact LeO.refl _)
   | (with_reducible exact LeO.none _)
   | (with_reducible refine LeO.ite ?_ ?_)
   | (with_reducible refine LeO.bind ?_ (fun _ => ?_))
   | exact E0 _ _ _ _
   | exact LeO.none _
   | refine LeO.ite ?_ ?_
   | refine LeO.bind ?_ (fun _ => ?_)
theorem impl_BoxOk.mono : ∀ a0 k, LeO (impl_BoxOk.f k a0) (impl_BoxOk.f (k + 1) a0) := by
 intro a0 k
 have E0 := impl_BoxOk.mono_l k
 unfold impl_BoxOk.f
 repeat' first
   | (with_reducible exact E0 _ _ _ _)
   | (with_reducible exact LeO.refl _)
   | (with_reducible exact LeO.none _)
   | (with_reducible refine LeO.ite ?_ ?_)
   | (with_reducible refine LeO.bind ?_ (fun _ => ?_))
   | exact E0 _ _ _ _
   | exact LeO.none _
   | refine LeO.ite ?_ ?_
   | refine LeO.bind ?_ (fun _ => ?_)
set_option maxHeartbeats 8000000 in
set_option maxRecDepth 100000 in
theorem impl_BoxOk.calls (k : Nat) (A0 : Option Addr) (c0 : Nat) (l0 : List (S46)) (r : Bool) (w : World) (V0 : Kd.C k46 w A0 l0.length l0) (S0 : l0.length ≤ c0) (h : impl_BoxOk.f k l0 = some r) :
  Calls Try.prog 25 #[.slice A0 l0.length c0] w fun e w' => e = .returned (.bool r) ∧ Below w.heap.size w w' := by
 have ar0 := Try.underlying46; have R0 := Aside0.mk V0; have X0 := Aside0.mk S0; clear V0 S0; have HB := Aside0.mk (Below.refl w.heap.size w); have H : (impl_BoxOk.l0 k l0 l0 (l0.length : Int) 0) = some r := h; clear h; have H' := Aside0.mk H; clear H
 go_enter Try.func25, Try.ntmps25
 go_wp2
 go_loopg [7] k (fun kq v7 w' => ∃ (a0 : Int), v7 = .int .i64 a0 ∧ Aside0 (impl_BoxOk.l0 kq l0 l0 (l0.length : Int) a0 = some r) ∧ Aside0 (kq ≤ k) ∧ Aside0 (Below w.heap.size w w'))
 case atStart => exact ⟨(0), zq45_, H', ⟨Nat.le_refl _⟩, ⟨zq54_⟩⟩
 case round =>
  clear H'; obtain ⟨a0, rfl, HA, ae0, HB⟩ := hrel
  cases gk with
  | zero => exact absurd HA.out (by simp [impl_BoxOk.l0])
  | succ k1 =>
   have H := HA.out; clear HA; simp only [impl_BoxOk.l0] at H; replace H := ifc_ H
   rcases H with ⟨c2b0, H⟩ | ⟨c2b0, H⟩
   ·replace H := ifd2_ H; obtain ⟨r0, r1, H⟩ := H; replace H := bs_ H; obtain ⟨i0, A5, H⟩ := H; (try dsimp only at H); replace H := ifB_ H
    rcases H with ⟨rfl, H⟩ | ⟨rfl, H⟩
    ·replace H := bs_ H; obtain ⟨i1, A7, H⟩ := H; (try dsimp only at H); replace H := ifB_ H
     rcases H with ⟨rfl, H⟩ | ⟨rfl, H⟩
     ·have H' := Aside0.mk H; clear H; have s0 : 0 ≤ (a0 : Int) := of_decide_eq_true zq40_; have t0 : a0 < (l0.length : Int) := of_decide_eq_true zq40_; obtain ⟨y0, N0, p0, p1⟩ := at_T46 R0.out a0 s0 t0; cases N0; replace p0 := pb_ HB.out p0; replace p1 := pb_ HB.out p1; replace s0 := eq_true s0; replace t0 := eq_true t0
      go_wp2_with (first | ((with_reducible refine gate_dst (N := 4) rfl ?_); refine bxe_ (N := 4) (cs := #[.int .i64 0, .int .i64 0]) (t := 46) ?_; intro c1 hg w9 x hb; have n_ := A4_ (below_step zq54_ hb) (x) ((zq81_ : w.heap.size ≤ c1)) ((zq81_ : w.heap.size ≤ c1)); clear HB; obtain ⟨HB, b0, z0, j0⟩ := n_; clear hb x hg; obtain ⟨g0, g1, h0, h1⟩ := bz2_ b0.out) | ((with_reducible refine gate_callee (f := 64) rfl ?_); refine gl_ 13 Try.func64 #[.int .i64 ((rd_T46 l0 a0).f0), .int .i64 0, .int .i64 1000000] ?_; (with_reducible refine (impl_in.calls ((rd_T46 l0 a0).f0) 0 1000000 true _ A5.out).mono ?_); rintro e w' ⟨rfl, ⟨nd, rfl⟩⟩; refine ⟨_, rfl, ?_⟩) | (go_at_call 64; (with_reducible refine (impl_in.calls ((rd_T46 l0 a0).f1) (-1000000) 1000000 true _ A7.out).mono ?_); rintro e w' ⟨rfl, ⟨nd, rfl⟩⟩; (try clear A7)))
      go_roundg k1
      case measure => have := ae0.out; omega
      case rel => exact ⟨(wrap64 (a0 + 1)), zq45_, H', ⟨by have := ae0.out; omega⟩, ⟨zq4c_⟩⟩
     ·obtain rfl := Option.some.inj H; have s0 : 0 ≤ (a0 : Int) := of_decide_eq_true zq40_; have t0 : a0 < (l0.length : Int) := of_decide_eq_true zq40_; obtain ⟨y0, N0, p0, p1⟩ := at_T46 R0.out a0 s0 t0; cases N0; replace p0 := pb_ HB.out p0; replace p1 := pb_ HB.out p1; replace s0 := eq_true s0; replace t0 := eq_true t0
      go_wp2_with (first | ((with_reducible refine gate_dst (N := 4) rfl ?_); refine bxe_ (N := 4) (cs := #[.int .i64 0, .int .i64 0]) (t := 46) ?_; intro c1 hg q0 x hb; have n_ := A4_ (below_step zq54_ hb) (x) ((zq81_ : w.heap.size ≤ c1)) ((zq81_ : w.heap.size ≤ c1)); clear HB; obtain ⟨HB, b0, z0, j0⟩ := n_; clear hb x hg; obtain ⟨g0, g1, h0, h1⟩ := bz2_ b0.out) | ((with_reducible refine gate_callee (f := 64) rfl ?_); refine gl_ 13 Try.func64 #[.int .i64 ((rd_T46 l0 a0).f0), .int .i64 0, .int .i64 1000000] ?_; (with_reducible refine (impl_in.calls ((rd_T46 l0 a0).f0) 0 1000000 true _ A5.out).mono ?_); rintro e w' ⟨rfl, ⟨nd, rfl⟩⟩; refine ⟨_, rfl, ?_⟩) | (go_at_call 64; (with_reducible refine (impl_in.calls ((rd_T46 l0 a0).f1) (-1000000) 1000000 false _ A7.out).mono ?_); rintro e w' ⟨rfl, ⟨nd, rfl⟩⟩; (try clear A7)))
      go_ret
      exact ⟨zq44_, zq4c_⟩
    ·obtain rfl := Option.some.inj H; have s0 : 0 ≤ (a0 : Int) := of_decide_eq_true zq40_; have t0 : a0 < (l0.length : Int) := of_decide_eq_true zq40_; obtain ⟨y0, N0, p0, p1⟩ := at_T46 R0.out a0 s0 t0; cases N0; replace p0 := pb_ HB.out p0; replace p1 := pb_ HB.out p1; replace s0 := eq_true s0; replace t0 := eq_true t0
     go_wp2_with (first | ((with_reducible refine gate_dst (N := 4) rfl ?_); refine bxe_ (N := 4) (cs := #[.int .i64 0, .int .i64 0]) (t := 46) ?_; intro c1 hg q0 x hb; have n_ := A4_ (below_step zq54_ hb) (x) ((zq81_ : w.heap.size ≤ c1)) ((zq81_ : w.heap.size ≤ c1)); clear HB; obtain ⟨HB, b0, z0, j0⟩ := n_; clear hb x hg; obtain ⟨g0, g1, h0, h1⟩ := bz2_ b0.out) | ((with_reducible refine gate_callee (f := 64) rfl ?_); refine gl_ 13 Try.func64 #[.int .i64 ((rd_T46 l0 a0).f0), .int .i64 0, .int .i64 1000000] ?_; (with_reducible refine (impl_in.calls ((rd_T46 l0 a0).f0) 0 1000000 false _ A5.out).mono ?_); rintro e w' ⟨rfl, ⟨nd, rfl⟩⟩; refine ⟨_, rfl, ?_⟩))
     go_ret
     exact ⟨zq44_, zq4c_⟩
   ·obtain rfl := Option.some.inj H
    go_wp2
    go_ret
    exact ⟨zq44_, zq54_⟩

/-! ### impl_insOk_1: function 108 -/
def impl_insOk_1.f (a0 : Int) : Option (Bool) := (impl_in.f a0 0 3).bind fun t247 => (some t247)
set_option maxHeartbeats 8000000 in
set_option maxRecDepth 100000 in
theorem impl_insOk_1.calls (a0 : Int) (r : Bool) (w : World) (h : impl_insOk_1.f a0 = some r) :
  Calls Try.prog 108 #[.int .i64 a0] w fun e w' => e = .returned (.bool r) ∧ Drawn0 w w' := by
 have H : ((impl_in.f a0 0 3).bind fun i0 => (some i0)) = some r := h; clear h; replace H := bs_ H; obtain ⟨i0, A2, H⟩ := H; (try dsimp only at H); obtain rfl := Option.some.inj H
 go_enter Try.func108, Try.ntmps108
 go_wp2_with (first | ((with_reducible refine gate_callee (f := 64) rfl ?_); refine gl_ 4 Try.func64 #[.int .i64 a0, .int .i64 0, .int .i64 3] ?_; (with_reducible refine (impl_in.calls a0 0 3 i0 _ A2.out).mono ?_); rintro e w' ⟨rfl, ⟨nd, rfl⟩⟩; refine ⟨_, rfl, ?_⟩))
 go_ret
 exact ⟨zq45_, zq67_⟩

/-! ### impl_insOk_2: function 109 -/
def impl_insOk_2.f (a0 : Int) : Option (Bool) := (impl_in.f a0 0 3).bind fun t248 => (some t248)
set_option maxHeartbeats 8000000 in
set_option maxRecDepth 100000 in
theorem impl_insOk_2.calls (a0 : Int) (r : Bool) (w : World) (h : impl_insOk_2.f a0 = some r) :
  Calls Try.prog 109 #[.int .i64 a0] w fun e w' => e = .returned (.bool r) ∧ Drawn0 w w' := by
 have H : ((impl_in.f a0 0 3).bind fun i0 => (some i0)) = some r := h; clear h; replace H := bs_ H; obtain ⟨i0, A2, H⟩ := H; (try dsimp only at H); obtain rfl := Option.some.inj H
 go_enter Try.func109, Try.ntmps109
 go_wp2_with (first | ((with_reducible refine gate_callee (f := 64) rfl ?_); refine gl_ 4 Try.func64 #[.int .i64 a0, .int .i64 0, .int .i64 3] ?_; (with_reducible refine (impl_in.calls a0 0 3 i0 _ A2.out).mono ?_); rintro e w' ⟨rfl, ⟨nd, rfl⟩⟩; refine ⟨_, rfl, ?_⟩))
 go_ret
 exact ⟨zq45_, zq67_⟩

end Go.Proofs.Ytgdafcakefnpdaa.PFnExactSerialOne

-- Laid by this session's program out of the translation (gen.sh).
import Derived.Test.YtgdafcakefnpdaaPFnSerialOnex0
import Derived.Test.YtgdafcakefnpdaaPFnSerialOnex12
import Derived.Test.YtgdafcakefnpdaaPFnSerialOnex13
namespace Go.Proofs.Ytgdafcakefnpdaa.PFnSerialOne
open Go.RowKit Go.Proofs.YtgdafcakefnpdaaW.PrintWords Go.Proofs.YtgdafcakefnpdaaW.PrintLast Go.Proofs.YtgdafcakefnpdaaW.PrintMore
attribute [local go_sem] max2_int min2_int max_two min_two max_three min_three max_four min_four   -- for this text's walks alone
set_option linter.unusedVariables false
set_option linter.unusedSimpArgs false

/-! ### spec_l2Bent: function 59 -/
def spec_l2Bent.l0 : Nat → List (S34) → Int → List Int → Int → Option ((List (S34)) × Int)
 | 0, _, _, _, _ => none
 | k + 1, x3, x4, x1000, x1001 => if (x3.length : Int) < 11 then (if 0 ≤ x4 then (if x4 < (x3.length : Int) then (if x3.length < 4398046511104 then (spec_l2Bent.l0 k (x3 ++ [(⟨(rd_T34 x3 x4).f0, (rd_T34 x3 x4).f1, (rd_T34 x3 x4).f2, (rd_T34 x3 x4).f3⟩ : S34)]) x4 x1000 x1001) else (none)) else (none)) else (none)) else (some (x3, x1001))
def spec_l2Bent.f (k : Nat) (s0_0 : List Int) (s0_1 : Int) : Option ((List (S34)) × Int) := (spec_l2Prog.f k s0_0 s0_1).bind fun bt437 => (if (bt437.1.length : Int) = 0 then (some (bt437.1, bt437.2)) else ((spec_l15Rd_pick.f k s0_0 bt437.2 (bt437.1.length : Int)).bind fun bt441 => ((spec_l15Rd_pick.f k s0_0 bt441.2 40).bind fun bt443 => (if bt443.1 = 0 then ((spec_l15Rd_num.f k s0_0 bt443.2 (([0, 8] : List Int))).bind fun bt448 => (if 0 ≤ bt441.1 then (if bt441.1 < (bt437.1.length : Int) then (some ((bt437.1.set (bt441.1 : Int).toNat (⟨bt448.1, (rd_T34 bt437.1 bt441.1).f1, (rd_T34 bt437.1 bt441.1).f2, (rd_T34 bt437.1 bt441.1).f3⟩ : S34)), bt448.2)) else (none)) else (none))) else (if bt443.1 = 1 then ((spec_l15Rd_num.f k s0_0 bt443.2 (([(-1), 4] : List Int))).bind fun bt454 => (if 0 ≤ bt441.1 then (if bt441.1 < (bt437.1.length : Int) then (some ((bt437.1.set (bt441.1 : Int).toNat (⟨(rd_T34 bt437.1 bt441.1).f0, bt454.1, (rd_T34 bt437.1 bt441.1).f2, (rd_T34 bt437.1 bt441.1).f3⟩ : S34)), bt454.2)) else (none)) else (none))) else (if bt443.1 = 2 then ((spec_l15Rd_num.f k s0_0 bt443.2 (([(-1), 11, 2000000] : List Int))).bind fun bt460 => (if 0 ≤ bt441.1 then (if bt441.1 < (bt437.1.length : Int) then (some ((bt437.1.set (bt441.1 : Int).toNat (⟨(rd_T34 bt437.1 bt441.1).f0, (rd_T34 bt437.1 bt441.1).f1, (rd_T34 bt437.1 bt441.1).f2, bt460.1⟩ : S34)), bt460.2)) else (none)) else (none))) else (if bt443.1 = 3 then (spec_l2Bent.l0 k bt437.1 bt441.1 s0_0 bt443.2) else (some (bt437.1, bt443.2)))))))))
theorem spec_l2Bent.mono_l : ∀ k, (∀ y0 y1 y2 y3, LeO (spec_l2Bent.l0 k y0 y1 y2 y3) (spec_l2Bent.l0 (k + 1) y0 y1 y2 y3))
 | 0 => fun _ _ _ _ r h => by simp [spec_l2Bent.l0] at h
 | k + 1 => by
  have G0 := spec_l2Bent.mono_l k
  ·intro y0 y1 y2 y3
   unfold spec_l2Bent.l0
   repeat' first
   | (with_reducible exact G0 _ _ _ _)
   | (with_reducible exact spec_l15Rd_num.mono _ _ _ _)
   | (with_reducible exact spec_l15Rd_pick.mono _ _ _ _)
   | (with_reducible exact spec_l2Prog.mono _ _ _)
   | (with_reducible exact LeO.refl _)
   | (with_reducible exact LeO.none _)
   | (with_reducible refine LeO.ite ?_ ?_)
   | (with_reducible refine LeO.bind ?_ (fun _ => ?_))
   | exact G0 _ _ _ _
   | exact spec_l15Rd_num.mono _ _ _ _
   | exact spec_l15Rd_pick.mono _ _ _ _
   | exact spec_l2Prog.mono _ _ _
   | exact LeO.none _
   | refine LeO.ite ?_ ?_
   | refine LeO.bind ?_ (fun _ => ?_)
theorem spec_l2Bent.mono : ∀ a0 a1 k, LeO (spec_l2Bent.f k a0 a1) (spec_l2Bent.f (k + 1) a0 a1) := by
 intro a0 a1 k
 have G0 := spec_l2Bent.mono_l k
 unfold spec_l2Bent.f
 repeat' first
   | (with_reducible exact G0 _ _ _ _)
   | (with_reducible exact spec_l15Rd_num.mono _ _ _ _)
   | (with_reducible exact spec_l15Rd_pick.mono _ _ _ _)
   | (with_reducible exact spec_l2Prog.mono _ _ _)
   | (with_reducible exact LeO.refl _)
   | (with_reducible exact LeO.none _)
   | (with_reducible refine LeO.ite ?_ ?_)
   | (with_reducible refine LeO.bind ?_ (fun _ => ?_))
   | exact G0 _ _ _ _
   | exact spec_l15Rd_num.mono _ _ _ _
   | exact spec_l15Rd_pick.mono _ _ _ _
   | exact spec_l2Prog.mono _ _ _
   | exact LeO.none _
   | refine LeO.ite ?_ ?_
   | refine LeO.bind ?_ (fun _ => ?_)
set_option maxHeartbeats 8000000 in
set_option maxRecDepth 100000 in
theorem spec_l2Bent.calls (k : Nat) (g : Nat) (D0 : List Int) (D1 : Int) (r1 : List (S34)) (r2 : Int) (w0 w : World) (hI : IsS110 w0 w g D0 D1) (hB : Below w0.heap.size w0 w) (h : spec_l2Bent.f k D0 D1 = some (r1, r2)) :
  Calls Try.prog 59 #[.pointer (some ⟨g, 0, none⟩)] w fun e w' => ∃ v0_ : Value, e = .returned (v0_) ∧ Kd.R k34 34 w' w.heap.size (fun _ => True) v0_ r1 ∧ IsS110 w0 w' g D0 r2 ∧ Below w0.heap.size w0 w' ∧ KeepBut w w' g none := by
 have aq0 := Try.underlying34; have p0 := Aside0.mk hI; have HK := Aside0.mk (KeepBut.refl w g none); have HL := Aside0.mk hB.size; clear hI; have aR0 := Aside0.mk hB.size; have HB := Aside0.mk hB; clear hB; have H : ((spec_l2Prog.f k D0 D1).bind fun F0 => (if (F0.1.length : Int) = 0 then (some (F0.1, F0.2)) else ((spec_l15Rd_pick.f k D0 F0.2 (F0.1.length : Int)).bind fun F1 => ((spec_l15Rd_pick.f k D0 F1.2 40).bind fun F2 => (if F2.1 = 0 then ((spec_l15Rd_num.f k D0 F2.2 (([0, 8] : List Int))).bind fun F3 => (if 0 ≤ F1.1 then (if F1.1 < (F0.1.length : Int) then (some ((F0.1.set (F1.1 : Int).toNat (⟨F3.1, (rd_T34 F0.1 F1.1).f1, (rd_T34 F0.1 F1.1).f2, (rd_T34 F0.1 F1.1).f3⟩ : S34)), F3.2)) else (none)) else (none))) else (if F2.1 = 1 then ((spec_l15Rd_num.f k D0 F2.2 (([(-1), 4] : List Int))).bind fun F4 => (if 0 ≤ F1.1 then (if F1.1 < (F0.1.length : Int) then (some ((F0.1.set (F1.1 : Int).toNat (⟨(rd_T34 F0.1 F1.1).f0, F4.1, (rd_T34 F0.1 F1.1).f2, (rd_T34 F0.1 F1.1).f3⟩ : S34)), F4.2)) else (none)) else (none))) else (if F2.1 = 2 then ((spec_l15Rd_num.f k D0 F2.2 (([(-1), 11, 2000000] : List Int))).bind fun F5 => (if 0 ≤ F1.1 then (if F1.1 < (F0.1.length : Int) then (some ((F0.1.set (F1.1 : Int).toNat (⟨(rd_T34 F0.1 F1.1).f0, (rd_T34 F0.1 F1.1).f1, (rd_T34 F0.1 F1.1).f2, F5.1⟩ : S34)), F5.2)) else (none)) else (none))) else (if F2.1 = 3 then (spec_l2Bent.l0 k F0.1 F1.1 D0 F2.2) else (some (F0.1, F2.2)))))))))) = some (r1, r2) := h; clear h; replace H := Option.bind_eq_some_iff.mp H; obtain ⟨⟨e0, e1⟩, y0, H⟩ := H; (try dsimp only at H); have A2 := Aside0.mk y0; clear y0; by_cases c3 : (e0.length : Int) = 0
 ·rw [if_pos c3] at H; have r0 : ((e0.length : Int) == 0) = true := beq_iff_eq.mpr c3; have r3 : ((e0.length : Int) != 0) = false := bne_eq_false_iff_eq.mpr c3; clear c3; simp only [Option.some.injEq, Prod.mk.injEq] at H; obtain ⟨rfl, rfl⟩ := H
  go_enter Try.func59, Try.ntmps59
  go_wp2_with (first | ((with_reducible refine gate_callee (f := 92) rfl ?_); refine gl_ 6 Try.func92 #[.pointer (some ⟨g, 0, none⟩)] ?_; (with_reducible refine (spec_l2Prog.calls k g D0 D1 e0 e1 w0 _ ?_ ?_ A2.out).mono ?_); exact zq82_; exact zq6e_; rintro e w4 ⟨L0, rfl, t0, hi, hb, hk⟩; refine ⟨_, rfl, ?_⟩; have n_ := A4_ (Kd.R_lower t0 (keep_size (w := w) (g := g) (row := none) zq77_)) (KeepBut.trans zq77_ hk (.inl rfl)) (hb) (hi); clear HK HB p0; obtain ⟨f4, HK, HB, p0⟩ := n_; (try clear hb); (try clear hk); (try clear hi); (try clear t0); obtain ⟨m0, i0, z0⟩ := Kd.R_slice f4.out; subst z0))
  go_ret
  exact ⟨_, zq68_, zq1c_, zq82_, zq6e_, zq77_⟩
 ·rw [if_neg c3] at H; have r0 : ((e0.length : Int) == 0) = false := beq_eq_false_iff_ne.mpr c3; have r3 : ((e0.length : Int) != 0) = true := bne_iff_ne.mpr c3; have r4 : ¬ (e0 = []) := fun h_ => c3 (by rw [h_]; rfl)
  replace H := Option.bind_eq_some_iff.mp H; obtain ⟨⟨e2, e3⟩, y1, H⟩ := H; (try dsimp only at H); have A6 := Aside0.mk y1; clear y1; replace H := Option.bind_eq_some_iff.mp H; obtain ⟨⟨e4, e5⟩, y2, H⟩ := H; (try dsimp only at H); have A7 := Aside0.mk y2; clear y2; by_cases c8 : e4 = 0
  ·rw [if_pos c8] at H; have r5 : (e4 == 0) = true := beq_iff_eq.mpr c8; have r6 : (e4 != 0) = false := bne_eq_false_iff_eq.mpr c8; clear c8; obtain ⟨K0, J0⟩ : ∃ y_ : List Int, y_ = (([0, 8] : List Int)) := ⟨_, rfl⟩; replace H : ((spec_l15Rd_num.f k D0 e5 K0).bind fun F3 => (if 0 ≤ e2 then (if e2 < (e0.length : Int) then (some ((e0.set (e2 : Int).toNat (⟨F3.1, (rd_T34 e0 e2).f1, (rd_T34 e0 e2).f2, (rd_T34 e0 e2).f3⟩ : S34)), F3.2)) else (none)) else (none))) = some (r1, r2) := by first | (rw [J0]; with_reducible exact H) | (have T0 := (Option.bind_some _ _).symm.trans H; rw [J0]; with_reducible exact T0) | (have T0 := (Option.bind_some _ _).symm.trans H; with_reducible exact T0) | with_reducible exact H | (rw [J0]; exact H) | exact H
   have ac0 := Aside0.mk J0; clear J0; replace H := Option.bind_eq_some_iff.mp H; obtain ⟨⟨e6, e7⟩, y3, H⟩ := H; (try dsimp only at H); have A9 := Aside0.mk y3; clear y3; replace H := ifd2_ H; obtain ⟨r7, r8, H⟩ := H; obtain ⟨K1, J1⟩ : ∃ y_ : List (S34), y_ = (e0.set (e2 : Int).toNat (⟨e6, (rd_T34 e0 e2).f1, (rd_T34 e0 e2).f2, (rd_T34 e0 e2).f3⟩ : S34)) := ⟨_, rfl⟩; replace H : (some (K1, e7)) = some (r1, r2) := by first | (rw [J1]; with_reducible exact H) | (have T0 := (Option.bind_some _ _).symm.trans H; rw [J1]; with_reducible exact T0) | (have T0 := (Option.bind_some _ _).symm.trans H; with_reducible exact T0) | with_reducible exact H | (rw [J1]; exact H) | exact H
   have ac1 := Aside0.mk J1; clear J1; simp only [Option.some.injEq, Prod.mk.injEq] at H; obtain ⟨rfl, rfl⟩ := H
   go_enter Try.func59, Try.ntmps59
   go_wp2_with (first | ((with_reducible refine gate_callee (f := 92) rfl ?_); refine gl_ 6 Try.func92 #[.pointer (some ⟨g, 0, none⟩)] ?_; (with_reducible refine (spec_l2Prog.calls k g D0 D1 e0 e1 w0 _ ?_ ?_ A2.out).mono ?_); exact zq82_; exact zq6e_; rintro e q0 ⟨L0, rfl, t0, hi, hb, hk⟩; refine ⟨_, rfl, ?_⟩; have n_ := A4_ (Kd.R_lower t0 (keep_size (w := w) (g := g) (row := none) zq77_)) (KeepBut.trans zq77_ hk (.inl rfl)) (hb) (hi); clear HK HB p0; obtain ⟨f4, HK, HB, p0⟩ := n_; (try clear hb); (try clear hk); (try clear hi); (try clear t0); obtain ⟨m0, i0, z0⟩ := Kd.R_slice f4.out; subst z0) | ((with_reducible refine gate_callee (f := 91) rfl ?_); refine gl_ 14 Try.func91 #[.pointer (some ⟨g, 0, none⟩), .int .i64 (e0.length : Int)] ?_; (with_reducible refine (spec_l15Rd_pick.calls k g D0 e1 (e0.length : Int) e2 e3 w0 _ ?_ ?_ A6.out).mono ?_); exact zq82_; exact zq6e_; rintro e q3 ⟨rfl, hi, hb, hk⟩; refine ⟨_, rfl, ?_⟩; have n_ := A4_ (Kd.R_mono (Kd.R_keep (IsS110.apart (show IsS110 w0 _ g D0 e1 from by repeat (first | (with_reducible first | exact p0.out | apply IsS110.alloc | apply IsS110.drewN | apply IsS110.drew | apply IsS110.set_1) | exact p0.out)) zq1c_ (by decide)) hk (fun _ h => h.2)) (fun _ h => h.1)) (KeepBut.trans zq77_ hk (.inl rfl)) (hb) (hi); clear f4 HK HB p0; obtain ⟨f4, HK, HB, p0⟩ := n_; (try clear hb); (try clear hk); (try clear hi)) | ((with_reducible refine gate_callee (f := 91) rfl ?_); refine gl_ 16 Try.func91 #[.pointer (some ⟨g, 0, none⟩), .int .i64 40] ?_; (with_reducible refine (spec_l15Rd_pick.calls k g D0 e3 40 e4 e5 w0 _ ?_ ?_ A7.out).mono ?_); exact zq82_; exact zq6e_; rintro e q5 ⟨rfl, hi, hb, hk⟩; refine ⟨_, rfl, ?_⟩; have n_ := A4_ (Kd.R_mono (Kd.R_keep (IsS110.apart (show IsS110 w0 _ g D0 e3 from by repeat (first | (with_reducible first | exact p0.out | apply IsS110.alloc | apply IsS110.drewN | apply IsS110.drew | apply IsS110.set_1) | exact p0.out)) zq1c_ (by decide)) hk (fun _ h => h.2)) (fun _ h => h.1)) (KeepBut.trans zq77_ hk (.inl rfl)) (hb) (hi); clear f4 HK HB p0; obtain ⟨f4, HK, HB, p0⟩ := n_; (try clear hb); (try clear hk); (try clear hi)) | ((with_reducible refine gate_dst (N := 22) rfl ?_); refine Kd.R_lit (Kd.int .i64) _ 3 ?hg (N := 22) ?hd (xs := ([0, 8] : List Int)) (inner := [.int .i64 0, .int .i64 8]) (ok := fun _ => True) (okp := fun _ => True) ?hr ?hp (fun _ hk => hk) trivial (Below.refl _ _) (Nat.le_refl _) (by simp) ?_; (case hd => rfl); (case hg => rfl); (case hr => first | (go_simp; done) | (go_simp; rfl)); (case hp => exact (Reps.one (show Kd.M (Kd.int .i64) _ _ _ 0 [.int .i64 0] from rfl) (Reps.one (show Kd.M (Kd.int .i64) _ _ _ 8 [.int .i64 8] from rfl) (Reps.none _ _)))); intro L1 q6 t1 hb ao ap; clear ao ap; (first | rw [← ac0.out] at t1 | (simp only [Int.reduceToNat] at t1; rw [← ac0.out] at t1)); have n_ := A5_ (Kd.R_below zq1c_ hb) (Kd.R_lower t1 (keep_size (w := w) (g := g) (row := none) zq77_)) (IsS110.below zq82_ hb) (KeepBut.trans zq77_ (KeepBut.of_below hb g none) (.inl rfl)) (below_step zq6e_ hb); clear f4 p0 HK HB; obtain ⟨f4, f5, p0, HK, HB⟩ := n_; clear hb t1; obtain ⟨m1, i1, z1⟩ := Kd.R_slice f5.out; subst z1) | ((with_reducible refine gate_callee (f := 98) rfl ?_); refine gl_ 23 Try.func98 #[.pointer (some ⟨g, 0, none⟩), .slice m1 K0.length i1] ?_; (with_reducible refine (spec_l15Rd_num.calls k g D0 e5 _ _ K0 e6 e7 w0 _ ?_ ?_ ?_ ?_ ?_ A9.out).mono ?_); exact zq82_; exact zq6e_; exact zq8a_; exact zq55_; exact zq5b_; rintro e q7 ⟨rfl, hi, hb, hk⟩; refine ⟨_, rfl, ?_⟩; have n_ := A5_ (Kd.R_mono (Kd.R_keep (IsS110.apart (show IsS110 w0 _ g D0 e5 from by repeat (first | (with_reducible first | exact p0.out | apply IsS110.alloc | apply IsS110.drewN | apply IsS110.drew | apply IsS110.set_1) | exact p0.out)) zq1c_ (by decide)) hk (fun _ h => h.2)) (fun _ h => h.1)) (Kd.R_mono (Kd.R_keep (IsS110.apart (show IsS110 w0 _ g D0 e5 from by repeat (first | (with_reducible first | exact p0.out | apply IsS110.alloc | apply IsS110.drewN | apply IsS110.drew | apply IsS110.set_1) | exact p0.out)) zq1d_ (by decide)) hk (fun _ h => h.2)) (fun _ h => h.1)) (KeepBut.trans zq77_ hk (.inl rfl)) (hb) (hi); clear f4 f5 HK HB p0; obtain ⟨f4, f5, HK, HB, p0⟩ := n_; (try clear hb); have x0 : 0 ≤ (e2 : Int) := of_decide_eq_true zq64_; have v0 : (e2 : Int) < ((e0.length : Int) : Int) := of_decide_eq_true zq64_; obtain ⟨S0, i2, z2, d0, aI0, bg0, ar0⟩ := Kd.R_form f4.out (by omega); (first | cases z2 | (injection z2 with ah aJ aK; (first | subst ah | (injection ah with ah; subst ah)); subst aK; clear aJ)); have aD0 := Aside0.mk d0; have aS0 := Aside0.mk ar0; clear d0 aI0 ar0; obtain ⟨aY0, am0, aj0, af0, ag0⟩ := Kd.R_elem f4.out z34 (e2 : Int) x0 v0; obtain rfl := k34_openM aj0; have s0 : q7.cell? ⟨S0, (e2 : Int).toNat * 4, none⟩ = some (.int .i64 ((rd_T34 e0 e2).f0)) := af0 0 _ rfl; have s1 : q7.cell? ⟨S0, (e2 : Int).toNat * 4 + 1, none⟩ = some (.int .i64 ((rd_T34 e0 e2).f1)) := af0 1 _ rfl; have s2 : q7.cell? ⟨S0, (e2 : Int).toNat * 4 + 2, none⟩ = some (.int .i64 ((rd_T34 e0 e2).f2)) := af0 2 _ rfl; have s3 : q7.cell? ⟨S0, (e2 : Int).toNat * 4 + 3, none⟩ = some (.int .i64 ((rd_T34 e0 e2).f3)) := af0 3 _ rfl; have al0 : q7.frozen? ⟨S0, (e2 : Int).toNat * 4, none⟩ = false := ag0 0; have al1 : q7.frozen? ⟨S0, (e2 : Int).toNat * 4 + 1, none⟩ = false := ag0 1; have al2 : q7.frozen? ⟨S0, (e2 : Int).toNat * 4 + 2, none⟩ = false := ag0 2; have al3 : q7.frozen? ⟨S0, (e2 : Int).toNat * 4 + 3, none⟩ = false := ag0 3; clear am0 af0 ag0 aj0; replace x0 := eq_true x0; replace v0 := eq_true v0; have aV0 := Aside0.mk (show Kd.R k34 34 q7 w.heap.size (fun _ => True) (.slice (some ⟨S0, 0, none⟩) e0.length i0) e0 from zq1c_); obtain ⟨aY1, am1, aj1, af1, ag1⟩ := Kd.R_elem aV0.out z34 (e2 : Int) (of_decide_eq_true zq64_) zq9e_; obtain rfl := k34_openM aj1; have ak0 := Kd.R_seg aV0.out (e2 : Int) (of_decide_eq_true zq64_) zq9e_ (seg := [.int .i64 e6]) (j := 0) am1 af1 (show 1 ≤ 4 from by decide) (x' := (⟨e6, (rd_T34 e0 e2).f1, (rd_T34 e0 e2).f2, (rd_T34 e0 e2).f3⟩ : S34)) (k34_mkM _ _ _ (⟨e6, (rd_T34 e0 e2).f1, (rd_T34 e0 e2).f2, (rd_T34 e0 e2).f3⟩ : S34) ) (fun _ hk => hk); have s4 := af1 0 _ rfl; (try simp only [show (k34).sz = 4 from rfl, Nat.mul_one, Nat.add_zero] at s4); have al4 := ag1 0; (try simp only [show (k34).sz = 4 from rfl, Nat.mul_one, Nat.add_zero] at al4); clear am1 af1 ag1 aj1) | ((with_reducible refine gate_store (t := 3) (p := 25) rfl ?_); refine store_event (t := 3) (p := 25) (v := ?vo_w22) (w1 := (q7.setCell ⟨S0, (e2 : Int).toNat * 4, none⟩ (.int .i64 e6))) ?hg ?ho ?hn ?hr ?_; (case ho => rfl); (case hg => rfl); (case hn => rfl); (case hr => first | (go_simp; done) | (go_simp; rfl)); intro q8 hw; have hg : q7.grownBy q8 (some S0) := (by rw [hw]; exact ak0.2); have aM : Kd.R k34 34 q8 w.heap.size (fun _ => True) (.slice (some ⟨S0, 0, none⟩) e0.length i0) K1 := (by rw [hw, ac1.out]; exact ak0.1); clear ak0; have n_ := A5_ (IsS110.grown zq82_ hg (IsS110.own_ne p0.out f4.out (by decide))) (aM) (Kd.R_over' (v := (.slice (some ⟨S0, 0, none⟩) e0.length i0)) zq1d_ (Kd.R_typed f4.out) (by decide) hg) ((by rw [hw]; exact below_set (HB.out) (Nat.le_trans HL.out aD0.out) : Below w0.heap.size w0 q8)) (KeepBut.trans zq77_ (KeepBut.of_grown hg g) (Kd.R_base2 f4.out)); clear p0 f4 f5 HB HK; obtain ⟨p0, f4, f5, HB, HK⟩ := n_; clear hg hw aM))
   go_ret
   exact ⟨_, zq68_, zq1c_, zq82_, zq6e_, zq77_⟩
  ·rw [if_neg c8] at H; have r5 : (e4 == 0) = false := beq_eq_false_iff_ne.mpr c8; have r6 : (e4 != 0) = true := bne_iff_ne.mpr c8; by_cases u0 : e4 = 1
   ·rw [if_pos u0] at H; have r7 : (e4 == 1) = true := beq_iff_eq.mpr u0; have r8 : (e4 != 1) = false := bne_eq_false_iff_eq.mpr u0; clear u0; obtain ⟨K0, J0⟩ : ∃ y_ : List Int, y_ = (([(-1), 4] : List Int)) := ⟨_, rfl⟩; replace H : ((spec_l15Rd_num.f k D0 e5 K0).bind fun F4 => (if 0 ≤ e2 then (if e2 < (e0.length : Int) then (some ((e0.set (e2 : Int).toNat (⟨(rd_T34 e0 e2).f0, F4.1, (rd_T34 e0 e2).f2, (rd_T34 e0 e2).f3⟩ : S34)), F4.2)) else (none)) else (none))) = some (r1, r2) := by first | (rw [J0]; with_reducible exact H) | (have T0 := (Option.bind_some _ _).symm.trans H; rw [J0]; with_reducible exact T0) | (have T0 := (Option.bind_some _ _).symm.trans H; with_reducible exact T0) | with_reducible exact H | (rw [J0]; exact H) | exact H
    have ac0 := Aside0.mk J0; clear J0; replace H := Option.bind_eq_some_iff.mp H; obtain ⟨⟨e6, e7⟩, y3, H⟩ := H; (try dsimp only at H); have y4 := Aside0.mk y3; clear y3; replace H := ifd2_ H; obtain ⟨r9, r10, H⟩ := H; obtain ⟨K1, J1⟩ : ∃ y_ : List (S34), y_ = (e0.set (e2 : Int).toNat (⟨(rd_T34 e0 e2).f0, e6, (rd_T34 e0 e2).f2, (rd_T34 e0 e2).f3⟩ : S34)) := ⟨_, rfl⟩; replace H : (some (K1, e7)) = some (r1, r2) := by first | (rw [J1]; with_reducible exact H) | (have T0 := (Option.bind_some _ _).symm.trans H; rw [J1]; with_reducible exact T0) | (have T0 := (Option.bind_some _ _).symm.trans H; with_reducible exact T0) | with_reducible exact H | (rw [J1]; exact H) | exact H
    have ac1 := Aside0.mk J1; clear J1; simp only [Option.some.injEq, Prod.mk.injEq] at H; obtain ⟨rfl, rfl⟩ := H
    go_enter Try.func59, Try.ntmps59
    go_wp2_with (first | ((with_reducible refine gate_callee (f := 92) rfl ?_); refine gl_ 6 Try.func92 #[.pointer (some ⟨g, 0, none⟩)] ?_; (with_reducible refine (spec_l2Prog.calls k g D0 D1 e0 e1 w0 _ ?_ ?_ A2.out).mono ?_); exact zq82_; exact zq6e_; rintro e q0 ⟨L0, rfl, t0, hi, hb, hk⟩; refine ⟨_, rfl, ?_⟩; have n_ := A4_ (Kd.R_lower t0 (keep_size (w := w) (g := g) (row := none) zq77_)) (KeepBut.trans zq77_ hk (.inl rfl)) (hb) (hi); clear HK HB p0; obtain ⟨f4, HK, HB, p0⟩ := n_; (try clear hb); (try clear hk); (try clear hi); (try clear t0); obtain ⟨m0, i0, z0⟩ := Kd.R_slice f4.out; subst z0) | ((with_reducible refine gate_callee (f := 91) rfl ?_); refine gl_ 14 Try.func91 #[.pointer (some ⟨g, 0, none⟩), .int .i64 (e0.length : Int)] ?_; (with_reducible refine (spec_l15Rd_pick.calls k g D0 e1 (e0.length : Int) e2 e3 w0 _ ?_ ?_ A6.out).mono ?_); exact zq82_; exact zq6e_; rintro e q3 ⟨rfl, hi, hb, hk⟩; refine ⟨_, rfl, ?_⟩; have n_ := A4_ (Kd.R_mono (Kd.R_keep (IsS110.apart (show IsS110 w0 _ g D0 e1 from by repeat (first | (with_reducible first | exact p0.out | apply IsS110.alloc | apply IsS110.drewN | apply IsS110.drew | apply IsS110.set_1) | exact p0.out)) zq1c_ (by decide)) hk (fun _ h => h.2)) (fun _ h => h.1)) (KeepBut.trans zq77_ hk (.inl rfl)) (hb) (hi); clear f4 HK HB p0; obtain ⟨f4, HK, HB, p0⟩ := n_; (try clear hb); (try clear hk); (try clear hi)) | ((with_reducible refine gate_callee (f := 91) rfl ?_); refine gl_ 16 Try.func91 #[.pointer (some ⟨g, 0, none⟩), .int .i64 40] ?_; (with_reducible refine (spec_l15Rd_pick.calls k g D0 e3 40 e4 e5 w0 _ ?_ ?_ A7.out).mono ?_); exact zq82_; exact zq6e_; rintro e q5 ⟨rfl, hi, hb, hk⟩; refine ⟨_, rfl, ?_⟩; have n_ := A4_ (Kd.R_mono (Kd.R_keep (IsS110.apart (show IsS110 w0 _ g D0 e3 from by repeat (first | (with_reducible first | exact p0.out | apply IsS110.alloc | apply IsS110.drewN | apply IsS110.drew | apply IsS110.set_1) | exact p0.out)) zq1c_ (by decide)) hk (fun _ h => h.2)) (fun _ h => h.1)) (KeepBut.trans zq77_ hk (.inl rfl)) (hb) (hi); clear f4 HK HB p0; obtain ⟨f4, HK, HB, p0⟩ := n_; (try clear hb); (try clear hk); (try clear hi)) | ((with_reducible refine gate_dst (N := 31) rfl ?_); refine Kd.R_lit (Kd.int .i64) _ 3 ?hg (N := 31) ?hd (xs := ([(-1), 4] : List Int)) (inner := [.int .i64 (-1), .int .i64 4]) (ok := fun _ => True) (okp := fun _ => True) ?hr ?hp (fun _ hk => hk) trivial (Below.refl _ _) (Nat.le_refl _) (by simp) ?_; (case hd => rfl); (case hg => rfl); (case hr => first | (go_simp; done) | (go_simp; rfl)); (case hp => exact (Reps.one (show Kd.M (Kd.int .i64) _ _ _ (-1) [.int .i64 (-1)] from rfl) (Reps.one (show Kd.M (Kd.int .i64) _ _ _ 4 [.int .i64 4] from rfl) (Reps.none _ _)))); intro L1 q6 t1 hb ao ap; clear ao ap; (first | rw [← ac0.out] at t1 | (simp only [Int.reduceToNat] at t1; rw [← ac0.out] at t1)); have n_ := A5_ (Kd.R_below zq1c_ hb) (Kd.R_lower t1 (keep_size (w := w) (g := g) (row := none) zq77_)) (IsS110.below zq82_ hb) (KeepBut.trans zq77_ (KeepBut.of_below hb g none) (.inl rfl)) (below_step zq6e_ hb); clear f4 p0 HK HB; obtain ⟨f4, f5, p0, HK, HB⟩ := n_; clear hb t1; obtain ⟨m1, i1, z1⟩ := Kd.R_slice f5.out; subst z1) | ((with_reducible refine gate_callee (f := 98) rfl ?_); refine gl_ 32 Try.func98 #[.pointer (some ⟨g, 0, none⟩), .slice m1 K0.length i1] ?_; (with_reducible refine (spec_l15Rd_num.calls k g D0 e5 _ _ K0 e6 e7 w0 _ ?_ ?_ ?_ ?_ ?_ y4.out).mono ?_); exact zq82_; exact zq6e_; exact zq8a_; exact zq55_; exact zq5b_; rintro e q7 ⟨rfl, hi, hb, hk⟩; refine ⟨_, rfl, ?_⟩; have n_ := A5_ (Kd.R_mono (Kd.R_keep (IsS110.apart (show IsS110 w0 _ g D0 e5 from by repeat (first | (with_reducible first | exact p0.out | apply IsS110.alloc | apply IsS110.drewN | apply IsS110.drew | apply IsS110.set_1) | exact p0.out)) zq1c_ (by decide)) hk (fun _ h => h.2)) (fun _ h => h.1)) (Kd.R_mono (Kd.R_keep (IsS110.apart (show IsS110 w0 _ g D0 e5 from by repeat (first | (with_reducible first | exact p0.out | apply IsS110.alloc | apply IsS110.drewN | apply IsS110.drew | apply IsS110.set_1) | exact p0.out)) zq1d_ (by decide)) hk (fun _ h => h.2)) (fun _ h => h.1)) (KeepBut.trans zq77_ hk (.inl rfl)) (hb) (hi); clear f4 f5 HK HB p0; obtain ⟨f4, f5, HK, HB, p0⟩ := n_; (try clear hb); have x0 : 0 ≤ (e2 : Int) := of_decide_eq_true zq64_; have v0 : (e2 : Int) < ((e0.length : Int) : Int) := of_decide_eq_true zq64_; obtain ⟨S0, i2, z2, d0, aI0, bg0, ar0⟩ := Kd.R_form f4.out (by omega); (first | cases z2 | (injection z2 with ah aJ aK; (first | subst ah | (injection ah with ah; subst ah)); subst aK; clear aJ)); have aD0 := Aside0.mk d0; have aS0 := Aside0.mk ar0; clear d0 aI0 ar0; obtain ⟨aY0, am0, aj0, af0, ag0⟩ := Kd.R_elem f4.out z34 (e2 : Int) x0 v0; obtain rfl := k34_openM aj0; have s0 : q7.cell? ⟨S0, (e2 : Int).toNat * 4, none⟩ = some (.int .i64 ((rd_T34 e0 e2).f0)) := af0 0 _ rfl; have s1 : q7.cell? ⟨S0, (e2 : Int).toNat * 4 + 1, none⟩ = some (.int .i64 ((rd_T34 e0 e2).f1)) := af0 1 _ rfl; have s2 : q7.cell? ⟨S0, (e2 : Int).toNat * 4 + 2, none⟩ = some (.int .i64 ((rd_T34 e0 e2).f2)) := af0 2 _ rfl; have s3 : q7.cell? ⟨S0, (e2 : Int).toNat * 4 + 3, none⟩ = some (.int .i64 ((rd_T34 e0 e2).f3)) := af0 3 _ rfl; have al0 : q7.frozen? ⟨S0, (e2 : Int).toNat * 4, none⟩ = false := ag0 0; have al1 : q7.frozen? ⟨S0, (e2 : Int).toNat * 4 + 1, none⟩ = false := ag0 1; have al2 : q7.frozen? ⟨S0, (e2 : Int).toNat * 4 + 2, none⟩ = false := ag0 2; have al3 : q7.frozen? ⟨S0, (e2 : Int).toNat * 4 + 3, none⟩ = false := ag0 3; clear am0 af0 ag0 aj0; replace x0 := eq_true x0; replace v0 := eq_true v0; have aV0 := Aside0.mk (show Kd.R k34 34 q7 w.heap.size (fun _ => True) (.slice (some ⟨S0, 0, none⟩) e0.length i0) e0 from zq1c_); obtain ⟨aY1, am1, aj1, af1, ag1⟩ := Kd.R_elem aV0.out z34 (e2 : Int) (of_decide_eq_true zq64_) zq9e_; obtain rfl := k34_openM aj1; have ak0 := Kd.R_seg aV0.out (e2 : Int) (of_decide_eq_true zq64_) zq9e_ (seg := [.int .i64 e6]) (j := 1) am1 af1 (show 2 ≤ 4 from by decide) (x' := (⟨(rd_T34 e0 e2).f0, e6, (rd_T34 e0 e2).f2, (rd_T34 e0 e2).f3⟩ : S34)) (k34_mkM _ _ _ (⟨(rd_T34 e0 e2).f0, e6, (rd_T34 e0 e2).f2, (rd_T34 e0 e2).f3⟩ : S34) ) (fun _ hk => hk); have s4 := af1 1 _ rfl; (try simp only [show (k34).sz = 4 from rfl, Nat.mul_one, Nat.add_zero] at s4); have al4 := ag1 1; (try simp only [show (k34).sz = 4 from rfl, Nat.mul_one, Nat.add_zero] at al4); clear am1 af1 ag1 aj1) | ((with_reducible refine gate_store (t := 3) (p := 34) rfl ?_); refine store_event (t := 3) (p := 34) (v := ?vo_w37) (w1 := (q7.setCell ⟨S0, (e2 : Int).toNat * 4 + 1, none⟩ (.int .i64 e6))) ?hg ?ho ?hn ?hr ?_; (case ho => rfl); (case hg => rfl); (case hn => rfl); (case hr => first | (go_simp; done) | (go_simp; rfl)); intro q8 hw; have hg : q7.grownBy q8 (some S0) := (by rw [hw]; exact ak0.2); have aM : Kd.R k34 34 q8 w.heap.size (fun _ => True) (.slice (some ⟨S0, 0, none⟩) e0.length i0) K1 := (by rw [hw, ac1.out]; exact ak0.1); clear ak0; have n_ := A5_ (IsS110.grown zq82_ hg (IsS110.own_ne p0.out f4.out (by decide))) (aM) (Kd.R_over' (v := (.slice (some ⟨S0, 0, none⟩) e0.length i0)) zq1d_ (Kd.R_typed f4.out) (by decide) hg) ((by rw [hw]; exact below_set (HB.out) (Nat.le_trans HL.out aD0.out) : Below w0.heap.size w0 q8)) (KeepBut.trans zq77_ (KeepBut.of_grown hg g) (Kd.R_base2 f4.out)); clear p0 f4 f5 HB HK; obtain ⟨p0, f4, f5, HB, HK⟩ := n_; clear hg hw aM))
    go_ret
    exact ⟨_, zq68_, zq1c_, zq82_, zq6e_, zq77_⟩
   ·rw [if_neg u0] at H; have r7 : (e4 == 1) = false := beq_eq_false_iff_ne.mpr u0; have r8 : (e4 != 1) = true := bne_iff_ne.mpr u0; by_cases u1 : e4 = 2
    ·rw [if_pos u1] at H; have r9 : (e4 == 2) = true := beq_iff_eq.mpr u1; have r10 : (e4 != 2) = false := bne_eq_false_iff_eq.mpr u1; clear u1; obtain ⟨K0, J0⟩ : ∃ y_ : List Int, y_ = (([(-1), 11, 2000000] : List Int)) := ⟨_, rfl⟩; replace H : ((spec_l15Rd_num.f k D0 e5 K0).bind fun F5 => (if 0 ≤ e2 then (if e2 < (e0.length : Int) then (some ((e0.set (e2 : Int).toNat (⟨(rd_T34 e0 e2).f0, (rd_T34 e0 e2).f1, (rd_T34 e0 e2).f2, F5.1⟩ : S34)), F5.2)) else (none)) else (none))) = some (r1, r2) := by first | (rw [J0]; with_reducible exact H) | (have T0 := (Option.bind_some _ _).symm.trans H; rw [J0]; with_reducible exact T0) | (have T0 := (Option.bind_some _ _).symm.trans H; with_reducible exact T0) | with_reducible exact H | (rw [J0]; exact H) | exact H
     have ac0 := Aside0.mk J0; clear J0; replace H := Option.bind_eq_some_iff.mp H; obtain ⟨⟨e6, e7⟩, y3, H⟩ := H; (try dsimp only at H); have y4 := Aside0.mk y3; clear y3; replace H := ifd2_ H; obtain ⟨r11, r12, H⟩ := H; obtain ⟨K1, J1⟩ : ∃ y_ : List (S34), y_ = (e0.set (e2 : Int).toNat (⟨(rd_T34 e0 e2).f0, (rd_T34 e0 e2).f1, (rd_T34 e0 e2).f2, e6⟩ : S34)) := ⟨_, rfl⟩; replace H : (some (K1, e7)) = some (r1, r2) := by first | (rw [J1]; with_reducible exact H) | (have T0 := (Option.bind_some _ _).symm.trans H; rw [J1]; with_reducible exact T0) | (have T0 := (Option.bind_some _ _).symm.trans H; with_reducible exact T0) | with_reducible exact H | (rw [J1]; exact H) | exact H
     have ac1 := Aside0.mk J1; clear J1; simp only [Option.some.injEq, Prod.mk.injEq] at H; obtain ⟨rfl, rfl⟩ := H
     go_enter Try.func59, Try.ntmps59
     go_wp2_with (first | ((with_reducible refine gate_callee (f := 92) rfl ?_); refine gl_ 6 Try.func92 #[.pointer (some ⟨g, 0, none⟩)] ?_; (with_reducible refine (spec_l2Prog.calls k g D0 D1 e0 e1 w0 _ ?_ ?_ A2.out).mono ?_); exact zq82_; exact zq6e_; rintro e q0 ⟨L0, rfl, t0, hi, hb, hk⟩; refine ⟨_, rfl, ?_⟩; have n_ := A4_ (Kd.R_lower t0 (keep_size (w := w) (g := g) (row := none) zq77_)) (KeepBut.trans zq77_ hk (.inl rfl)) (hb) (hi); clear HK HB p0; obtain ⟨f4, HK, HB, p0⟩ := n_; (try clear hb); (try clear hk); (try clear hi); (try clear t0); obtain ⟨m0, i0, z0⟩ := Kd.R_slice f4.out; subst z0) | ((with_reducible refine gate_callee (f := 91) rfl ?_); refine gl_ 14 Try.func91 #[.pointer (some ⟨g, 0, none⟩), .int .i64 (e0.length : Int)] ?_; (with_reducible refine (spec_l15Rd_pick.calls k g D0 e1 (e0.length : Int) e2 e3 w0 _ ?_ ?_ A6.out).mono ?_); exact zq82_; exact zq6e_; rintro e q3 ⟨rfl, hi, hb, hk⟩; refine ⟨_, rfl, ?_⟩; have n_ := A4_ (Kd.R_mono (Kd.R_keep (IsS110.apart (show IsS110 w0 _ g D0 e1 from by repeat (first | (with_reducible first | exact p0.out | apply IsS110.alloc | apply IsS110.drewN | apply IsS110.drew | apply IsS110.set_1) | exact p0.out)) zq1c_ (by decide)) hk (fun _ h => h.2)) (fun _ h => h.1)) (KeepBut.trans zq77_ hk (.inl rfl)) (hb) (hi); clear f4 HK HB p0; obtain ⟨f4, HK, HB, p0⟩ := n_; (try clear hb); (try clear hk); (try clear hi)) | ((with_reducible refine gate_callee (f := 91) rfl ?_); refine gl_ 16 Try.func91 #[.pointer (some ⟨g, 0, none⟩), .int .i64 40] ?_; (with_reducible refine (spec_l15Rd_pick.calls k g D0 e3 40 e4 e5 w0 _ ?_ ?_ A7.out).mono ?_); exact zq82_; exact zq6e_; rintro e q5 ⟨rfl, hi, hb, hk⟩; refine ⟨_, rfl, ?_⟩; have n_ := A4_ (Kd.R_mono (Kd.R_keep (IsS110.apart (show IsS110 w0 _ g D0 e3 from by repeat (first | (with_reducible first | exact p0.out | apply IsS110.alloc | apply IsS110.drewN | apply IsS110.drew | apply IsS110.set_1) | exact p0.out)) zq1c_ (by decide)) hk (fun _ h => h.2)) (fun _ h => h.1)) (KeepBut.trans zq77_ hk (.inl rfl)) (hb) (hi); clear f4 HK HB p0; obtain ⟨f4, HK, HB, p0⟩ := n_; (try clear hb); (try clear hk); (try clear hi)) | ((with_reducible refine gate_dst (N := 40) rfl ?_); refine Kd.R_lit (Kd.int .i64) _ 3 ?hg (N := 40) ?hd (xs := ([(-1), 11, 2000000] : List Int)) (inner := [.int .i64 (-1), .int .i64 11, .int .i64 2000000]) (ok := fun _ => True) (okp := fun _ => True) ?hr ?hp (fun _ hk => hk) trivial (Below.refl _ _) (Nat.le_refl _) (by simp) ?_; (case hd => rfl); (case hg => rfl); (case hr => first | (go_simp; done) | (go_simp; rfl)); (case hp => exact (Reps.one (show Kd.M (Kd.int .i64) _ _ _ (-1) [.int .i64 (-1)] from rfl) (Reps.one (show Kd.M (Kd.int .i64) _ _ _ 11 [.int .i64 11] from rfl) (Reps.one (show Kd.M (Kd.int .i64) _ _ _ 2000000 [.int .i64 2000000] from rfl) (Reps.none _ _))))); intro L1 q6 t1 hb ao ap; clear ao ap; (first | rw [← ac0.out] at t1 | (simp only [Int.reduceToNat] at t1; rw [← ac0.out] at t1)); have n_ := A5_ (Kd.R_below zq1c_ hb) (Kd.R_lower t1 (keep_size (w := w) (g := g) (row := none) zq77_)) (IsS110.below zq82_ hb) (KeepBut.trans zq77_ (KeepBut.of_below hb g none) (.inl rfl)) (below_step zq6e_ hb); clear f4 p0 HK HB; obtain ⟨f4, f5, p0, HK, HB⟩ := n_; clear hb t1; obtain ⟨m1, i1, z1⟩ := Kd.R_slice f5.out; subst z1) | ((with_reducible refine gate_callee (f := 98) rfl ?_); refine gl_ 41 Try.func98 #[.pointer (some ⟨g, 0, none⟩), .slice m1 K0.length i1] ?_; (with_reducible refine (spec_l15Rd_num.calls k g D0 e5 _ _ K0 e6 e7 w0 _ ?_ ?_ ?_ ?_ ?_ y4.out).mono ?_); exact zq82_; exact zq6e_; exact zq8a_; exact zq55_; exact zq5b_; rintro e q7 ⟨rfl, hi, hb, hk⟩; refine ⟨_, rfl, ?_⟩; have n_ := A5_ (Kd.R_mono (Kd.R_keep (IsS110.apart (show IsS110 w0 _ g D0 e5 from by repeat (first | (with_reducible first | exact p0.out | apply IsS110.alloc | apply IsS110.drewN | apply IsS110.drew | apply IsS110.set_1) | exact p0.out)) zq1c_ (by decide)) hk (fun _ h => h.2)) (fun _ h => h.1)) (Kd.R_mono (Kd.R_keep (IsS110.apart (show IsS110 w0 _ g D0 e5 from by repeat (first | (with_reducible first | exact p0.out | apply IsS110.alloc | apply IsS110.drewN | apply IsS110.drew | apply IsS110.set_1) | exact p0.out)) zq1d_ (by decide)) hk (fun _ h => h.2)) (fun _ h => h.1)) (KeepBut.trans zq77_ hk (.inl rfl)) (hb) (hi); clear f4 f5 HK HB p0; obtain ⟨f4, f5, HK, HB, p0⟩ := n_; (try clear hb); have x0 : 0 ≤ (e2 : Int) := of_decide_eq_true zq64_; have v0 : (e2 : Int) < ((e0.length : Int) : Int) := of_decide_eq_true zq64_; obtain ⟨S0, i2, z2, d0, aI0, bg0, ar0⟩ := Kd.R_form f4.out (by omega); (first | cases z2 | (injection z2 with ah aJ aK; (first | subst ah | (injection ah with ah; subst ah)); subst aK; clear aJ)); have aD0 := Aside0.mk d0; have aS0 := Aside0.mk ar0; clear d0 aI0 ar0; obtain ⟨aY0, am0, aj0, af0, ag0⟩ := Kd.R_elem f4.out z34 (e2 : Int) x0 v0; obtain rfl := k34_openM aj0; have s0 : q7.cell? ⟨S0, (e2 : Int).toNat * 4, none⟩ = some (.int .i64 ((rd_T34 e0 e2).f0)) := af0 0 _ rfl; have s1 : q7.cell? ⟨S0, (e2 : Int).toNat * 4 + 1, none⟩ = some (.int .i64 ((rd_T34 e0 e2).f1)) := af0 1 _ rfl; have s2 : q7.cell? ⟨S0, (e2 : Int).toNat * 4 + 2, none⟩ = some (.int .i64 ((rd_T34 e0 e2).f2)) := af0 2 _ rfl; have s3 : q7.cell? ⟨S0, (e2 : Int).toNat * 4 + 3, none⟩ = some (.int .i64 ((rd_T34 e0 e2).f3)) := af0 3 _ rfl; have al0 : q7.frozen? ⟨S0, (e2 : Int).toNat * 4, none⟩ = false := ag0 0; have al1 : q7.frozen? ⟨S0, (e2 : Int).toNat * 4 + 1, none⟩ = false := ag0 1; have al2 : q7.frozen? ⟨S0, (e2 : Int).toNat * 4 + 2, none⟩ = false := ag0 2; have al3 : q7.frozen? ⟨S0, (e2 : Int).toNat * 4 + 3, none⟩ = false := ag0 3; clear am0 af0 ag0 aj0; replace x0 := eq_true x0; replace v0 := eq_true v0; have aV0 := Aside0.mk (show Kd.R k34 34 q7 w.heap.size (fun _ => True) (.slice (some ⟨S0, 0, none⟩) e0.length i0) e0 from zq1c_); obtain ⟨aY1, am1, aj1, af1, ag1⟩ := Kd.R_elem aV0.out z34 (e2 : Int) (of_decide_eq_true zq64_) zq9e_; obtain rfl := k34_openM aj1; have ak0 := Kd.R_seg aV0.out (e2 : Int) (of_decide_eq_true zq64_) zq9e_ (seg := [.int .i64 e6]) (j := 3) am1 af1 (show 4 ≤ 4 from by decide) (x' := (⟨(rd_T34 e0 e2).f0, (rd_T34 e0 e2).f1, (rd_T34 e0 e2).f2, e6⟩ : S34)) (k34_mkM _ _ _ (⟨(rd_T34 e0 e2).f0, (rd_T34 e0 e2).f1, (rd_T34 e0 e2).f2, e6⟩ : S34) ) (fun _ hk => hk); have s4 := af1 3 _ rfl; (try simp only [show (k34).sz = 4 from rfl, Nat.mul_one, Nat.add_zero] at s4); have al4 := ag1 3; (try simp only [show (k34).sz = 4 from rfl, Nat.mul_one, Nat.add_zero] at al4); clear am1 af1 ag1 aj1) | ((with_reducible refine gate_store (t := 3) (p := 43) rfl ?_); refine store_event (t := 3) (p := 43) (v := ?vo_w52) (w1 := (q7.setCell ⟨S0, (e2 : Int).toNat * 4 + 3, none⟩ (.int .i64 e6))) ?hg ?ho ?hn ?hr ?_; (case ho => rfl); (case hg => rfl); (case hn => rfl); (case hr => first | (go_simp; done) | (go_simp; rfl)); intro q8 hw; have hg : q7.grownBy q8 (some S0) := (by rw [hw]; exact ak0.2); have aM : Kd.R k34 34 q8 w.heap.size (fun _ => True) (.slice (some ⟨S0, 0, none⟩) e0.length i0) K1 := (by rw [hw, ac1.out]; exact ak0.1); clear ak0; have n_ := A5_ (IsS110.grown zq82_ hg (IsS110.own_ne p0.out f4.out (by decide))) (aM) (Kd.R_over' (v := (.slice (some ⟨S0, 0, none⟩) e0.length i0)) zq1d_ (Kd.R_typed f4.out) (by decide) hg) ((by rw [hw]; exact below_set (HB.out) (Nat.le_trans HL.out aD0.out) : Below w0.heap.size w0 q8)) (KeepBut.trans zq77_ (KeepBut.of_grown hg g) (Kd.R_base2 f4.out)); clear p0 f4 f5 HB HK; obtain ⟨p0, f4, f5, HB, HK⟩ := n_; clear hg hw aM))
     go_ret
     exact ⟨_, zq68_, zq1c_, zq82_, zq6e_, zq77_⟩
    ·rw [if_neg u1] at H; have r9 : (e4 == 2) = false := beq_eq_false_iff_ne.mpr u1; have r10 : (e4 != 2) = true := bne_iff_ne.mpr u1; by_cases u2 : e4 = 3
     ·rw [if_pos u2] at H; have r11 : (e4 == 3) = true := beq_iff_eq.mpr u2; have r12 : (e4 != 3) = false := bne_eq_false_iff_eq.mpr u2; clear u2; have H' := Aside0.mk H; clear H
      go_enter Try.func59, Try.ntmps59
      go_wp2_with (first | ((with_reducible refine gate_callee (f := 92) rfl ?_); refine gl_ 6 Try.func92 #[.pointer (some ⟨g, 0, none⟩)] ?_; (with_reducible refine (spec_l2Prog.calls k g D0 D1 e0 e1 w0 _ ?_ ?_ A2.out).mono ?_); exact zq82_; exact zq6e_; rintro e q0 ⟨L0, rfl, t0, hi, hb, hk⟩; refine ⟨_, rfl, ?_⟩; have n_ := A4_ (Kd.R_lower t0 (keep_size (w := w) (g := g) (row := none) zq77_)) (KeepBut.trans zq77_ hk (.inl rfl)) (hb) (hi); clear HK HB p0; obtain ⟨f4, HK, HB, p0⟩ := n_; (try clear hb); (try clear hk); (try clear hi); (try clear t0); obtain ⟨m0, i0, z0⟩ := Kd.R_slice f4.out; subst z0) | ((with_reducible refine gate_callee (f := 91) rfl ?_); refine gl_ 14 Try.func91 #[.pointer (some ⟨g, 0, none⟩), .int .i64 (e0.length : Int)] ?_; (with_reducible refine (spec_l15Rd_pick.calls k g D0 e1 (e0.length : Int) e2 e3 w0 _ ?_ ?_ A6.out).mono ?_); exact zq82_; exact zq6e_; rintro e q3 ⟨rfl, hi, hb, hk⟩; refine ⟨_, rfl, ?_⟩; have n_ := A4_ (Kd.R_mono (Kd.R_keep (IsS110.apart (show IsS110 w0 _ g D0 e1 from by repeat (first | (with_reducible first | exact p0.out | apply IsS110.alloc | apply IsS110.drewN | apply IsS110.drew | apply IsS110.set_1) | exact p0.out)) zq1c_ (by decide)) hk (fun _ h => h.2)) (fun _ h => h.1)) (KeepBut.trans zq77_ hk (.inl rfl)) (hb) (hi); clear f4 HK HB p0; obtain ⟨f4, HK, HB, p0⟩ := n_; (try clear hb); (try clear hk); (try clear hi)) | ((with_reducible refine gate_callee (f := 91) rfl ?_); refine gl_ 16 Try.func91 #[.pointer (some ⟨g, 0, none⟩), .int .i64 40] ?_; (with_reducible refine (spec_l15Rd_pick.calls k g D0 e3 40 e4 e5 w0 _ ?_ ?_ A7.out).mono ?_); exact zq82_; exact zq6e_; rintro e q5 ⟨rfl, hi, hb, hk⟩; refine ⟨_, rfl, ?_⟩; have n_ := A4_ (Kd.R_mono (Kd.R_keep (IsS110.apart (show IsS110 w0 _ g D0 e3 from by repeat (first | (with_reducible first | exact p0.out | apply IsS110.alloc | apply IsS110.drewN | apply IsS110.drew | apply IsS110.set_1) | exact p0.out)) zq1c_ (by decide)) hk (fun _ h => h.2)) (fun _ h => h.1)) (KeepBut.trans zq77_ hk (.inl rfl)) (hb) (hi); clear f4 HK HB p0; obtain ⟨f4, HK, HB, p0⟩ := n_; (try clear hb); (try clear hk); (try clear hi)))
      go_loopg [3] k (fun kq v3 w' => ∃ (a0 : List (S34)), Aside0 (spec_l2Bent.l0 kq a0 e2 D0 e5 = some (r1, r2)) ∧ Aside0 (kq ≤ k) ∧ Aside0 (Kd.R k34 34 w' w.heap.size (fun _ => True) v3 a0) ∧ Aside0 (IsS110 w0 w' g D0 e5) ∧ Aside0 (KeepBut w w' g none) ∧ Aside0 (Below w0.heap.size w0 w'))
      case atStart => exact ⟨(e0), H', ⟨Nat.le_refl _⟩, ⟨zq1c_⟩, ⟨zq82_⟩, ⟨zq77_⟩, ⟨zq6e_⟩⟩
      case round =>
       clear H'
       try clear c1
       try clear p1
       try clear q1
       try clear hx1
       try clear hf1
       try clear c2
       try clear p2
       try clear q2
       try clear hx2
       try clear hf2
       try clear c3
       try clear r0
       try clear r3
       try clear r4
       try clear hx3
       try clear hf3
       try clear c4
       try clear p4
       try clear q4
       try clear hx4
       try clear hf4
       try clear c5
       try clear hx5
       try clear hf5
       try clear c8
       try clear r5
       try clear r6
       try clear c9
       try clear c10
       try clear r13
       try clear c11
       try clear r14
       try clear c12
       try clear x0
       try clear v0
       try clear hx12
       try clear hf12
       try clear c21
       try clear hx21
       try clear hf21
       try clear u0
       try clear r7
       try clear r8
       try clear c25
       try clear r15
       try clear c26
       try clear r16
       try clear c27
       try clear x1
       try clear v1
       try clear hx27
       try clear hf27
       try clear c36
       try clear hx36
       try clear hf36
       try clear u1
       try clear r9
       try clear r10
       try clear c40
       try clear r17
       try clear c41
       try clear r18
       try clear c42
       try clear x2
       try clear v2
       try clear hx42
       try clear hf42
       try clear c51
       try clear hx51
       try clear hf51
       try clear u2
       try clear r11
       try clear r12
       try clear s0
       try clear s1
       try clear s2
       try clear s3
       try clear s4
       try clear s5
       try clear s6
       try clear s7
       try clear s8
       try clear s9
       try clear s10
       try clear s11
       try clear s12
       try clear s13
       try clear s14
       try clear x0
       try clear x1
       try clear x2
       try clear v0
       try clear v1
       try clear v2
       obtain ⟨a0, HA, X0, l1, p0, HK, HB⟩ := hrel
       cases gk with
       | zero => exact absurd HA.out (by simp [spec_l2Bent.l0])
       | succ k1 =>
        have H := HA.out; clear HA; simp only [spec_l2Bent.l0] at H; by_cases u3 : (a0.length : Int) < 11
        ·rw [if_pos u3] at H; have r19 : decide ((a0.length : Int) < 11) = true := decide_eq_true u3; have r20 : decide (a0.length < 11) = true := decide_eq_true (by omega); clear u3; replace H := ifd2_ H; obtain ⟨r21, r22, H⟩ := H; replace H := ifp_ H; obtain ⟨u4, H⟩ := H; have bc0 := Aside0.mk u4; clear u4; obtain ⟨K0, J0⟩ : ∃ y_ : List (S34), y_ = (a0 ++ [(⟨(rd_T34 a0 e2).f0, (rd_T34 a0 e2).f1, (rd_T34 a0 e2).f2, (rd_T34 a0 e2).f3⟩ : S34)]) := ⟨_, rfl⟩; replace H : (spec_l2Bent.l0 k1 K0 e2 D0 e5) = some (r1, r2) := by first | (rw [J0]; with_reducible exact H) | (have T0 := (Option.bind_some _ _).symm.trans H; rw [J0]; with_reducible exact T0) | (have T0 := (Option.bind_some _ _).symm.trans H; with_reducible exact T0) | with_reducible exact H | (rw [J0]; exact H) | exact H
         have ac0 := Aside0.mk J0; clear J0; have H' := Aside0.mk H; clear H; obtain ⟨m1, i1, z1⟩ := Kd.R_slice l1.out; subst z1; have x3 : 0 ≤ (e2 : Int) := of_decide_eq_true zq64_; have v4 : e2 < (a0.length : Int) := of_decide_eq_true zq64_; obtain ⟨E0, M0, s15, s16, s17, s18⟩ := at_T34 (Kd.R_reads' l1.out).2.2 e2 x3 v4; cases M0; replace x3 := eq_true x3; replace v4 := eq_true v4
         go_wp2_with (first | ((with_reducible refine gate_builtin (b := .append) (xs := #[.tmp 49, .tmp 54]) rfl ?_); at_builtin; refine Kd.R_append k34 w.heap.size rfl (.tmp 49) (.tmp 54) 24 34 (.agg #[(.int .i64 0), (.int .i64 0), (.int .i64 0), (.int .i64 0)]) 32 rfl Try.underlying24 info34 rfl (by decide) (by omega) (.slice (some E0) a0.length i1) a0 (⟨(rd_T34 a0 e2).f0, (rd_T34 a0 e2).f1, (rd_T34 a0 e2).f2, (rd_T34 a0 e2).f3⟩ : S34) [.int .i64 ((rd_T34 a0 e2).f0), .int .i64 ((rd_T34 a0 e2).f1), .int .i64 ((rd_T34 a0 e2).f2), .int .i64 ((rd_T34 a0 e2).f3)] (fun _ => True) (fun _ => False) rfl rfl ?aP (fun _ hk => hk.elim) ?aF ?aO (Below.refl _ _) ?aS ?aL ?_; (case aP => exact k34_mkM _ _ _ (⟨(rd_T34 a0 e2).f0, (rd_T34 a0 e2).f1, (rd_T34 a0 e2).f2, (rd_T34 a0 e2).f3⟩ : S34)); (case aF => exact (fun _ _ => trivial)); (case aO => exact zq21_); (case aS => exact (keep_size (w := w) (g := g) (row := none) zq77_)); (case aL => have := bc0.out; omega); intro L1 q6 ho hb hg bd; rw [← ac0.out] at ho; have n_ := A4_ (IsS110.grown zq82_ hg (IsS110.own_ne p0.out l1.out (by decide))) (below_weaken zq6e_ HL.out hb) (KeepBut.trans zq77_ (KeepBut.of_grown hg g) (Kd.R_base2 l1.out)) (ho); clear p0 HB HK l1; obtain ⟨p0, HB, HK, f5⟩ := n_; clear ho hb hg bd))
         go_roundg k1
         case measure => have := X0.out; omega
         case rel => exact ⟨(K0), H', ⟨by have := X0.out; omega⟩, ⟨zq1d_⟩, ⟨zq82_⟩, ⟨zq77_⟩, ⟨zq6e_⟩⟩
        ·rw [if_neg u3] at H; have r19 : decide ((a0.length : Int) < 11) = false := decide_eq_false u3; have r20 : decide (a0.length < 11) = false := decide_eq_false (by omega); clear u3; simp only [Option.some.injEq, Prod.mk.injEq] at H; obtain ⟨rfl, rfl⟩ := H; obtain ⟨m1, i1, z1⟩ := Kd.R_slice l1.out; subst z1
         go_wp2
         go_ret
         exact ⟨_, zq68_, zq21_, zq82_, zq6e_, zq77_⟩
     ·rw [if_neg u2] at H; have r11 : (e4 == 3) = false := beq_eq_false_iff_ne.mpr u2; have r12 : (e4 != 3) = true := bne_iff_ne.mpr u2; simp only [Option.some.injEq, Prod.mk.injEq] at H; obtain ⟨rfl, rfl⟩ := H
      go_enter Try.func59, Try.ntmps59
      go_wp2_with (first | ((with_reducible refine gate_callee (f := 92) rfl ?_); refine gl_ 6 Try.func92 #[.pointer (some ⟨g, 0, none⟩)] ?_; (with_reducible refine (spec_l2Prog.calls k g D0 D1 e0 e1 w0 _ ?_ ?_ A2.out).mono ?_); exact zq82_; exact zq6e_; rintro e q0 ⟨L0, rfl, t0, hi, hb, hk⟩; refine ⟨_, rfl, ?_⟩; have n_ := A4_ (Kd.R_lower t0 (keep_size (w := w) (g := g) (row := none) zq77_)) (KeepBut.trans zq77_ hk (.inl rfl)) (hb) (hi); clear HK HB p0; obtain ⟨f4, HK, HB, p0⟩ := n_; (try clear hb); (try clear hk); (try clear hi); (try clear t0); obtain ⟨m0, i0, z0⟩ := Kd.R_slice f4.out; subst z0) | ((with_reducible refine gate_callee (f := 91) rfl ?_); refine gl_ 14 Try.func91 #[.pointer (some ⟨g, 0, none⟩), .int .i64 (e0.length : Int)] ?_; (with_reducible refine (spec_l15Rd_pick.calls k g D0 e1 (e0.length : Int) e2 e3 w0 _ ?_ ?_ A6.out).mono ?_); exact zq82_; exact zq6e_; rintro e q3 ⟨rfl, hi, hb, hk⟩; refine ⟨_, rfl, ?_⟩; have n_ := A4_ (Kd.R_mono (Kd.R_keep (IsS110.apart (show IsS110 w0 _ g D0 e1 from by repeat (first | (with_reducible first | exact p0.out | apply IsS110.alloc | apply IsS110.drewN | apply IsS110.drew | apply IsS110.set_1) | exact p0.out)) zq1c_ (by decide)) hk (fun _ h => h.2)) (fun _ h => h.1)) (KeepBut.trans zq77_ hk (.inl rfl)) (hb) (hi); clear f4 HK HB p0; obtain ⟨f4, HK, HB, p0⟩ := n_; (try clear hb); (try clear hk); (try clear hi)) | ((with_reducible refine gate_callee (f := 91) rfl ?_); refine gl_ 16 Try.func91 #[.pointer (some ⟨g, 0, none⟩), .int .i64 40] ?_; (with_reducible refine (spec_l15Rd_pick.calls k g D0 e3 40 e4 e5 w0 _ ?_ ?_ A7.out).mono ?_); exact zq82_; exact zq6e_; rintro e q5 ⟨rfl, hi, hb, hk⟩; refine ⟨_, rfl, ?_⟩; have n_ := A4_ (Kd.R_mono (Kd.R_keep (IsS110.apart (show IsS110 w0 _ g D0 e3 from by repeat (first | (with_reducible first | exact p0.out | apply IsS110.alloc | apply IsS110.drewN | apply IsS110.drew | apply IsS110.set_1) | exact p0.out)) zq1c_ (by decide)) hk (fun _ h => h.2)) (fun _ h => h.1)) (KeepBut.trans zq77_ hk (.inl rfl)) (hb) (hi); clear f4 HK HB p0; obtain ⟨f4, HK, HB, p0⟩ := n_; (try clear hb); (try clear hk); (try clear hi)))
      go_ret
      exact ⟨_, zq68_, zq1c_, zq82_, zq6e_, zq77_⟩

/-! ### spec_DrawExecRun: function 12 -/
def spec_DrawExecRun.f (k : Nat) (l0 : List Int) : Option ((List (S46)) × (List (S34))) := (spec_l15Open.f l0).bind fun bt467 => ((spec_l1Boxes.f k bt467.1 bt467.2).bind fun bt470 => ((spec_l2Bent.f k bt467.1 bt470.2).bind fun bt474 => (some (bt470.1, bt474.1))))
theorem spec_DrawExecRun.mono : ∀ a0 k, LeO (spec_DrawExecRun.f k a0) (spec_DrawExecRun.f (k + 1) a0) := by
 intro a0 k
 unfold spec_DrawExecRun.f
 repeat' first
   | (with_reducible exact spec_l1Boxes.mono _ _ _)
   | (with_reducible exact spec_l2Bent.mono _ _ _)
   | (with_reducible exact LeO.refl _)
   | (with_reducible exact LeO.none _)
   | (with_reducible refine LeO.ite ?_ ?_)
   | (with_reducible refine LeO.bind ?_ (fun _ => ?_))
   | exact spec_l1Boxes.mono _ _ _
   | exact spec_l2Bent.mono _ _ _
   | exact LeO.none _
   | refine LeO.ite ?_ ?_
   | refine LeO.bind ?_ (fun _ => ?_)
set_option maxHeartbeats 8000000 in
set_option maxRecDepth 100000 in
theorem spec_DrawExecRun.calls (k : Nat) (A0 : Option Addr) (c0 : Nat) (l0 : List Int) (r1 : List (S46)) (r2 : List (S34)) (w : World) (V0 : Kd.C (Kd.int .u8) w A0 l0.length l0) (Z0 : l0.length ≤ c0) (h : spec_DrawExecRun.f k l0 = some (r1, r2)) :
  Calls Try.prog 12 #[.slice A0 l0.length c0] w fun e w' => ∃ v0_ v1_ : Value, e = .returned (.tuple #[v0_, v1_]) ∧ Kd.R k46 46 w' w.heap.size (fun _ => True) v0_ r1 ∧ Kd.R k34 34 w' w.heap.size (fun _ => True) v1_ r2 ∧ Below w.heap.size w w' := by
 have U0 := Aside0.mk V0; have aa0 := Aside0.mk Z0; clear V0 Z0; have HB := Aside0.mk (Below.refl w.heap.size w); have H : ((spec_l15Open.f l0).bind fun F0 => ((spec_l1Boxes.f k F0.1 F0.2).bind fun F1 => ((spec_l2Bent.f k F0.1 F1.2).bind fun F2 => (some (F1.1, F2.1))))) = some (r1, r2) := h; clear h; replace H := Option.bind_eq_some_iff.mp H; obtain ⟨⟨e0, e1⟩, y0, H⟩ := H; (try dsimp only at H); have A2 := Aside0.mk y0; clear y0; replace H := Option.bind_eq_some_iff.mp H; obtain ⟨⟨e2, e3⟩, y1, H⟩ := H; (try dsimp only at H); have A3 := Aside0.mk y1; clear y1; replace H := Option.bind_eq_some_iff.mp H; obtain ⟨⟨e4, e5⟩, y2, H⟩ := H; (try dsimp only at H); have A4 := Aside0.mk y2; clear y2; simp only [Option.some.injEq, Prod.mk.injEq] at H; obtain ⟨rfl, rfl⟩ := H
 go_enter Try.func12, Try.ntmps12
 go_wp2_with (first | ((with_reducible refine gate_callee (f := 57) rfl ?_); refine gl_ 7 Try.func57 #[.slice A0 l0.length c0] ?_; (with_reducible refine (spec_l15Open.calls _ _ l0 e0 e1 w _ ?_ ?_ ?_ A2.out).mono ?_); exact zq74_; exact U0.out; exact aa0.out; rintro e w5 ⟨bJ0, rfl, hi, hb, be0⟩; refine ⟨_, rfl, ?_⟩; have n_ := A2_ (hb) (hi); clear HB; obtain ⟨HB, p0⟩ := n_; (try clear hb); (try clear be0); (try clear hi)) | ((with_reducible refine gate_callee (f := 58) rfl ?_); refine gl_ 9 Try.func58 #[.pointer (some ⟨bJ0, 0, none⟩)] ?_; (with_reducible refine (spec_l1Boxes.calls k bJ0 e0 e1 e2 e3 w _ ?_ ?_ A3.out).mono ?_); exact zq82_; exact zq6e_; rintro e w6 ⟨L0, rfl, t0, hi, hb, hk⟩; refine ⟨_, rfl, ?_⟩; have n_ := A3_ (Kd.R_lower t0 (below_size zq6e_)) (hb) (hi); clear HB p0; obtain ⟨f0, HB, p0⟩ := n_; (try clear hb); (try clear hi); (try clear t0)) | ((with_reducible refine gate_callee (f := 59) rfl ?_); refine gl_ 12 Try.func59 #[.pointer (some ⟨bJ0, 0, none⟩)] ?_; (with_reducible refine (spec_l2Bent.calls k bJ0 e0 e3 e4 e5 w _ ?_ ?_ A4.out).mono ?_); exact zq82_; exact zq6e_; rintro e w7 ⟨L1, rfl, t0, hi, hb, hk⟩; refine ⟨_, rfl, ?_⟩; have n_ := A4_ (Kd.R_mono (Kd.R_keep (IsS110.apart (show IsS110 w _ bJ0 e0 e3 from by repeat (first | (with_reducible first | exact p0.out | apply IsS110.alloc | apply IsS110.drewN | apply IsS110.drew | apply IsS110.set_1) | exact p0.out)) zq18_ (by decide)) hk (fun _ h => h.2)) (fun _ h => h.1)) (Kd.R_lower t0 (below_size zq6e_)) (hb) (hi); clear f0 HB p0; obtain ⟨f0, f1, HB, p0⟩ := n_; (try clear hb); (try clear hk); (try clear hi); (try clear t0)))
 go_ret2
 exact ⟨_, _, zq68_, zq18_, zq19_, zq6e_⟩

/-! ### spec_DrawSerialOne: function 40 -/
def spec_DrawSerialOne.f (k : Nat) (l0 : List Int) : Option ((List (S46)) × (List (S34))) := (spec_DrawExecRun.f k l0).bind fun bt478 => (some (bt478.1, bt478.2))
theorem spec_DrawSerialOne.mono : ∀ a0 k, LeO (spec_DrawSerialOne.f k a0) (spec_DrawSerialOne.f (k + 1) a0) := by
 intro a0 k
 unfold spec_DrawSerialOne.f
 repeat' first
   | (with_reducible exact spec_DrawExecRun.mono _ _)
   | (with_reducible exact LeO.refl _)
   | (with_reducible exact LeO.none _)
   | (with_reducible refine LeO.ite ?_ ?_)
   | (with_reducible refine LeO.bind ?_ (fun _ => ?_))
   | exact spec_DrawExecRun.mono _ _
   | exact LeO.none _
   | refine LeO.ite ?_ ?_
   | refine LeO.bind ?_ (fun _ => ?_)
set_option maxHeartbeats 8000000 in
set_option maxRecDepth 100000 in
theorem spec_DrawSerialOne.calls (k : Nat) (A0 : Option Addr) (c0 : Nat) (l0 : List Int) (r1 : List (S46)) (r2 : List (S34)) (w : World) (V0 : Kd.C (Kd.int .u8) w A0 l0.length l0) (Z0 : l0.length ≤ c0) (h : spec_DrawSerialOne.f k l0 = some (r1, r2)) :
  Calls Try.prog 40 #[.slice A0 l0.length c0] w fun e w' => ∃ v0_ v1_ : Value, e = .returned (.tuple #[v0_, v1_]) ∧ Kd.R k46 46 w' w.heap.size (fun _ => True) v0_ r1 ∧ Kd.R k34 34 w' w.heap.size (fun _ => True) v1_ r2 ∧ Below w.heap.size w w' := by
 have U0 := Aside0.mk V0; have aa0 := Aside0.mk Z0; clear V0 Z0; have HB := Aside0.mk (Below.refl w.heap.size w); have H : ((spec_DrawExecRun.f k l0).bind fun F0 => (some (F0.1, F0.2))) = some (r1, r2) := h; clear h; replace H := Option.bind_eq_some_iff.mp H; obtain ⟨⟨e0, e1⟩, y0, H⟩ := H; (try dsimp only at H); have A2 := Aside0.mk y0; clear y0; simp only [Option.some.injEq, Prod.mk.injEq] at H; obtain ⟨rfl, rfl⟩ := H
 go_enter Try.func40, Try.ntmps40
 go_wp2_with (first | ((with_reducible refine gate_callee (f := 12) rfl ?_); refine gl_ 5 Try.func12 #[.slice A0 l0.length c0] ?_; (with_reducible refine (spec_DrawExecRun.calls k _ _ l0 e0 e1 _ ?_ ?_ A2.out).mono ?_); exact zq91_; exact aa0.out; rintro e w3 ⟨L0, L1, rfl, t0, t1, hb⟩; refine ⟨_, rfl, ?_⟩; have n_ := A3_ (Kd.R_lower t0 (below_size zq74_)) (Kd.R_lower t1 (below_size zq74_)) (below_step zq74_ hb); clear HB; obtain ⟨f0, f1, HB⟩ := n_; (try clear hb); (try clear t0); (try clear t1)))
 go_ret2
 exact ⟨_, _, zq68_, zq18_, zq19_, zq74_⟩

end Go.Proofs.Ytgdafcakefnpdaa.PFnSerialOne

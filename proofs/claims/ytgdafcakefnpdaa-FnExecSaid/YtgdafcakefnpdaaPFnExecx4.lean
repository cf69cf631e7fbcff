-- Laid by this session's program out of the translation (gen.sh).
import Derived.Test.YtgdafcakefnpdaaPFnExecx0
import Derived.Test.YtgdafcakefnpdaaPFnExecx3
namespace Go.Proofs.Ytgdafcakefnpdaa.PFnExec
open Go.RowKit Go.Proofs.YtgdafcakefnpdaaW.PrintWords Go.Proofs.YtgdafcakefnpdaaW.PrintLast Go.Proofs.YtgdafcakefnpdaaW.PrintMore
attribute [local go_sem] max2_int min2_int max_two min_two max_three min_three max_four min_four   -- for this text's walks alone
set_option linter.unusedVariables false
set_option linter.unusedSimpArgs false

/-! ### spec_l2Prog: function 92 -/
def spec_l2Prog.l0 : Nat → List (S34) → Int → List Int → Int → Option ((List (S34)) × Int)
 | 0, _, _, _, _ => none
 | k + 1, x5, x6, x1000, x1001 => if x6 > 0 then ((spec_l2Any.f k x1000 x1001).bind fun bt185 => (if x5.length < 4398046511104 then (spec_l2Prog.l0 k (x5 ++ [(⟨bt185.1, bt185.2.1, bt185.2.2.1, bt185.2.2.2.1⟩ : S34)]) (wrap64 (x6 - 1)) x1000 bt185.2.2.2.2) else (none))) else (some (x5, x1001))
def spec_l2Prog.f (k : Nat) (s0_0 : List Int) (s0_1 : Int) : Option ((List (S34)) × Int) := (spec_l15Rd_pick.f k s0_0 s0_1 3).bind fun bt169 => (if bt169.1 = 0 then ((spec_l15Rd_pick.f k s0_0 bt169.2 3).bind fun bt171 => ((spec_l15Rd_pick.f k s0_0 bt171.2 3).bind fun bt173 => ((spec_l15Rd_pick.f k s0_0 bt173.2 3).bind fun bt175 => (some ((([(⟨1, 0, bt171.1, 0⟩ : S34), (⟨3, 1, 0, wrap64 (1 + bt175.1)⟩ : S34), (⟨4, 0, 1, 0⟩ : S34), (⟨2, bt173.1, 0, 0⟩ : S34)] : List (S34))), bt175.2))))) else ((spec_l15Rd_pick.f k s0_0 bt169.2 8).bind fun bt183 => (spec_l2Prog.l0 k (([] : List (S34))) bt183.1 s0_0 bt183.2)))
theorem spec_l2Prog.mono_l : ∀ k, (∀ y0 y1 y2 y3, LeO (spec_l2Prog.l0 k y0 y1 y2 y3) (spec_l2Prog.l0 (k + 1) y0 y1 y2 y3))
 | 0 => fun _ _ _ _ r h => by simp [spec_l2Prog.l0] at h
 | k + 1 => by
  have H0 := spec_l2Prog.mono_l k
  ·intro y0 y1 y2 y3
   unfold spec_l2Prog.l0
   repeat' first
   | (with_reducible exact H0 _ _ _ _)
   | (with_reducible exact spec_l15Rd_pick.mono _ _ _ _)
   | (with_reducible exact spec_l2Any.mono _ _ _)
   | (with_reducible exact LeO.refl _)
   | (with_reducible exact LeO.none _)
   | (with_reducible refine LeO.ite ?_ ?_)
   | (with_reducible refine LeO.bind ?_ (fun _ => ?_))
   | exact H0 _ _ _ _
   | exact spec_l15Rd_pick.mono _ _ _ _
   | exact spec_l2Any.mono _ _ _
   | exact LeO.none _
   | refine LeO.ite ?_ ?_
   | refine LeO.bind ?_ (fun _ => ?_)
theorem spec_l2Prog.mono : ∀ a0 a1 k, LeO (spec_l2Prog.f k a0 a1) (spec_l2Prog.f (k + 1) a0 a1) := by
 intro a0 a1 k
 have H0 := spec_l2Prog.mono_l k
 unfold spec_l2Prog.f
 repeat' first
   | (with_reducible exact H0 _ _ _ _)
   | (with_reducible exact spec_l15Rd_pick.mono _ _ _ _)
   | (with_reducible exact spec_l2Any.mono _ _ _)
   | (with_reducible exact LeO.refl _)
   | (with_reducible exact LeO.none _)
   | (with_reducible refine LeO.ite ?_ ?_)
   | (with_reducible refine LeO.bind ?_ (fun _ => ?_))
   | exact H0 _ _ _ _
   | exact spec_l15Rd_pick.mono _ _ _ _
   | exact spec_l2Any.mono _ _ _
   | exact LeO.none _
   | refine LeO.ite ?_ ?_
   | refine LeO.bind ?_ (fun _ => ?_)
set_option maxHeartbeats 8000000 in
set_option maxRecDepth 100000 in
theorem spec_l2Prog.calls (k : Nat) (g : Nat) (C0 : List Int) (C1 : Int) (r1 : List (S34)) (r2 : Int) (w0 w : World) (hI : IsS110 w0 w g C0 C1) (hB : Below w0.heap.size w0 w) (h : spec_l2Prog.f k C0 C1 = some (r1, r2)) :
  Calls Try.prog 92 #[.pointer (some ⟨g, 0, none⟩)] w fun e w' => ∃ v0_ : Value, e = .returned (v0_) ∧ Kd.R k34 34 w' w.heap.size (fun _ => True) v0_ r1 ∧ IsS110 w0 w' g C0 r2 ∧ Below w0.heap.size w0 w' ∧ KeepBut w w' g none := by
 have ap0 := Try.underlying34; have p0 := Aside0.mk hI; have HK := Aside0.mk (KeepBut.refl w g none); have HL := Aside0.mk hB.size; clear hI; have aX0 := Aside0.mk hB.size; have HB := Aside0.mk hB; clear hB; have H : ((spec_l15Rd_pick.f k C0 C1 3).bind fun L0 => (if L0.1 = 0 then ((spec_l15Rd_pick.f k C0 L0.2 3).bind fun L1 => ((spec_l15Rd_pick.f k C0 L1.2 3).bind fun L2 => ((spec_l15Rd_pick.f k C0 L2.2 3).bind fun L3 => (some ((([(⟨1, 0, L1.1, 0⟩ : S34), (⟨3, 1, 0, wrap64 (1 + L3.1)⟩ : S34), (⟨4, 0, 1, 0⟩ : S34), (⟨2, L2.1, 0, 0⟩ : S34)] : List (S34))), L3.2))))) else ((spec_l15Rd_pick.f k C0 L0.2 8).bind fun L4 => (spec_l2Prog.l0 k (([] : List (S34))) L4.1 C0 L4.2)))) = some (r1, r2) := h; clear h; replace H := Option.bind_eq_some_iff.mp H; obtain ⟨⟨e0, e1⟩, B0, H⟩ := H; (try dsimp only at H); have A2 := Aside0.mk B0; clear B0; by_cases c3 : e0 = 0
 ·rw [if_pos c3] at H; have s0 : (e0 == 0) = true := beq_iff_eq.mpr c3; have s1 : (e0 != 0) = false := bne_eq_false_iff_eq.mpr c3; clear c3; replace H := Option.bind_eq_some_iff.mp H; obtain ⟨⟨e2, e3⟩, B1, H⟩ := H; (try dsimp only at H); have A4 := Aside0.mk B1; clear B1; replace H := Option.bind_eq_some_iff.mp H; obtain ⟨⟨e4, e5⟩, B2, H⟩ := H; (try dsimp only at H); have A5 := Aside0.mk B2; clear B2; replace H := Option.bind_eq_some_iff.mp H; obtain ⟨⟨e6, e7⟩, B3, H⟩ := H; (try dsimp only at H); have A6 := Aside0.mk B3; clear B3; obtain ⟨K0, M0⟩ : ∃ y_ : List (S34), y_ = (([(⟨1, 0, e2, 0⟩ : S34), (⟨3, 1, 0, wrap64 (1 + e6)⟩ : S34), (⟨4, 0, 1, 0⟩ : S34), (⟨2, e4, 0, 0⟩ : S34)] : List (S34))) := ⟨_, rfl⟩; replace H : (some (K0, e7)) = some (r1, r2) := by first | (rw [M0]; with_reducible exact H) | (have T0 := (Option.bind_some _ _).symm.trans H; rw [M0]; with_reducible exact T0) | (have T0 := (Option.bind_some _ _).symm.trans H; with_reducible exact T0) | with_reducible exact H | (rw [M0]; exact H) | exact H
  have ad0 := Aside0.mk M0; clear M0; simp only [Option.some.injEq, Prod.mk.injEq] at H; obtain ⟨rfl, rfl⟩ := H
  go_enter Try.func92, Try.ntmps92
  go_wp2_with (first | ((with_reducible refine gate_callee (f := 91) rfl ?_); refine gl_ 8 Try.func91 #[.pointer (some ⟨g, 0, none⟩), .int .i64 3] ?_; (with_reducible refine (spec_l15Rd_pick.calls k g C0 C1 3 e0 e1 w0 _ ?_ ?_ A2.out).mono ?_); exact zq7a_; exact zq5f_; rintro e w7 ⟨rfl, hi, hb, hk⟩; refine ⟨_, rfl, ?_⟩; have n_ := A3_ (KeepBut.trans zq6f_ hk (.inl rfl)) (hb) (hi); clear HK HB p0; obtain ⟨HK, HB, p0⟩ := n_; (try clear hb); (try clear hk); (try clear hi)) | ((with_reducible refine gate_callee (f := 91) rfl ?_); refine gl_ 11 Try.func91 #[.pointer (some ⟨g, 0, none⟩), .int .i64 3] ?_; (with_reducible refine (spec_l15Rd_pick.calls k g C0 e1 3 e2 e3 w0 _ ?_ ?_ A4.out).mono ?_); exact zq7a_; exact zq5f_; rintro e w8 ⟨rfl, hi, hb, hk⟩; refine ⟨_, rfl, ?_⟩; have n_ := A3_ (KeepBut.trans zq6f_ hk (.inl rfl)) (hb) (hi); clear HK HB p0; obtain ⟨HK, HB, p0⟩ := n_; (try clear hb); (try clear hk); (try clear hi)) | ((with_reducible refine gate_callee (f := 91) rfl ?_); refine gl_ 13 Try.func91 #[.pointer (some ⟨g, 0, none⟩), .int .i64 3] ?_; (with_reducible refine (spec_l15Rd_pick.calls k g C0 e3 3 e4 e5 w0 _ ?_ ?_ A5.out).mono ?_); exact zq7a_; exact zq5f_; rintro e w9 ⟨rfl, hi, hb, hk⟩; refine ⟨_, rfl, ?_⟩; have n_ := A3_ (KeepBut.trans zq6f_ hk (.inl rfl)) (hb) (hi); clear HK HB p0; obtain ⟨HK, HB, p0⟩ := n_; (try clear hb); (try clear hk); (try clear hi)) | ((with_reducible refine gate_callee (f := 91) rfl ?_); refine gl_ 17 Try.func91 #[.pointer (some ⟨g, 0, none⟩), .int .i64 3] ?_; (with_reducible refine (spec_l15Rd_pick.calls k g C0 e5 3 e6 e7 w0 _ ?_ ?_ A6.out).mono ?_); exact zq7a_; exact zq5f_; rintro e r0 ⟨rfl, hi, hb, hk⟩; refine ⟨_, rfl, ?_⟩; have n_ := A3_ (KeepBut.trans zq6f_ hk (.inl rfl)) (hb) (hi); clear HK HB p0; obtain ⟨HK, HB, p0⟩ := n_; (try clear hb); (try clear hk); (try clear hi)) | ((with_reducible refine gate_dst (N := 23) rfl ?_); refine Kd.R_lit k34 _ 34 ?hg (N := 23) ?hd (xs := ([(⟨1, 0, e2, 0⟩ : S34), (⟨3, 1, 0, wrap64 (1 + e6)⟩ : S34), (⟨4, 0, 1, 0⟩ : S34), (⟨2, e4, 0, 0⟩ : S34)] : List (S34))) (inner := [.int .i64 1, .int .i64 0, .int .i64 e2, .int .i64 0, .int .i64 3, .int .i64 1, .int .i64 0, .int .i64 (wrap64 (1 + e6)), .int .i64 4, .int .i64 0, .int .i64 1, .int .i64 0, .int .i64 2, .int .i64 e4, .int .i64 0, .int .i64 0]) (ok := fun _ => True) (okp := fun _ => True) ?hr ?hp (fun _ hk => hk) trivial (Below.refl _ _) (Nat.le_refl _) (by simp) ?_; (case hd => rfl); (case hg => rfl); (case hr => first | (go_simp; done) | (go_simp; rfl)); (case hp => exact (Reps.c4 (show Kd.M k34 _ _ _ (⟨1, 0, e2, 0⟩ : S34) [.int .i64 1, .int .i64 0, .int .i64 e2, .int .i64 0] from (k34_mkM _ _ _ (⟨1, 0, e2, 0⟩ : S34) )) (Reps.c4 (show Kd.M k34 _ _ _ (⟨3, 1, 0, wrap64 (1 + e6)⟩ : S34) [.int .i64 3, .int .i64 1, .int .i64 0, .int .i64 (wrap64 (1 + e6))] from (k34_mkM _ _ _ (⟨3, 1, 0, wrap64 (1 + e6)⟩ : S34) )) (Reps.c4 (show Kd.M k34 _ _ _ (⟨4, 0, 1, 0⟩ : S34) [.int .i64 4, .int .i64 0, .int .i64 1, .int .i64 0] from (k34_mkM _ _ _ (⟨4, 0, 1, 0⟩ : S34) )) (Reps.c4 (show Kd.M k34 _ _ _ (⟨2, e4, 0, 0⟩ : S34) [.int .i64 2, .int .i64 e4, .int .i64 0, .int .i64 0] from (k34_mkM _ _ _ (⟨2, e4, 0, 0⟩ : S34) )) (Reps.none _ _)))))); intro X0 r3 E0 hb aq ar; clear aq ar; (first | rw [← ad0.out] at E0 | (simp only [Int.reduceToNat] at E0; rw [← ad0.out] at E0)); have n_ := A4_ (Kd.R_lower E0 (keep_size (w := w) (g := g) (row := none) zq6f_)) (IsS110.below zq7a_ hb) (KeepBut.trans zq6f_ (KeepBut.of_below hb g none) (.inl rfl)) (below_step zq5f_ hb); clear p0 HK HB; obtain ⟨j0, p0, HK, HB⟩ := n_; clear hb E0))
  go_ret
  exact ⟨_, zq59_, zq14_, zq7a_, zq5f_, zq6f_⟩
 ·rw [if_neg c3] at H; have s0 : (e0 == 0) = false := beq_eq_false_iff_ne.mpr c3; have s1 : (e0 != 0) = true := bne_iff_ne.mpr c3; obtain ⟨K0, M0⟩ : ∃ y_ : List (S34), y_ = (([] : List (S34))) := ⟨_, rfl⟩; replace H : ((spec_l15Rd_pick.f k C0 e1 8).bind fun L4 => (spec_l2Prog.l0 k K0 L4.1 C0 L4.2)) = some (r1, r2) := by first | (rw [M0]; with_reducible exact H) | (have T0 := (Option.bind_some _ _).symm.trans H; rw [M0]; with_reducible exact T0) | (have T0 := (Option.bind_some _ _).symm.trans H; with_reducible exact T0) | with_reducible exact H | (rw [M0]; exact H) | exact H
  have ad0 := Aside0.mk M0; clear M0; replace H := Option.bind_eq_some_iff.mp H; obtain ⟨⟨e2, e3⟩, B1, H⟩ := H; (try dsimp only at H); have B2 := Aside0.mk B1; clear B1; have H' := Aside0.mk H; clear H
  go_enter Try.func92, Try.ntmps92
  go_wp2_with (first | ((with_reducible refine gate_callee (f := 91) rfl ?_); refine gl_ 8 Try.func91 #[.pointer (some ⟨g, 0, none⟩), .int .i64 3] ?_; (with_reducible refine (spec_l15Rd_pick.calls k g C0 C1 3 e0 e1 w0 _ ?_ ?_ A2.out).mono ?_); exact zq7a_; exact zq5f_; rintro e r0 ⟨rfl, hi, hb, hk⟩; refine ⟨_, rfl, ?_⟩; have n_ := A3_ (KeepBut.trans zq6f_ hk (.inl rfl)) (hb) (hi); clear HK HB p0; obtain ⟨HK, HB, p0⟩ := n_; (try clear hb); (try clear hk); (try clear hi)) | ((with_reducible refine gate_dst (N := 24) rfl ?_); refine Kd.R_lit k34 _ 34 ?hg (N := 24) ?hd (xs := ([] : List (S34))) (inner := []) (ok := fun _ => True) (okp := fun _ => True) ?hr ?hp (fun _ hk => hk) trivial (Below.refl _ _) (Nat.le_refl _) (by simp) ?_; (case hd => rfl); (case hg => rfl); (case hr => first | (go_simp; done) | (go_simp; rfl)); (case hp => exact (Reps.none _ _)); intro X0 r3 E0 hb aq ar; clear aq ar; (first | rw [← ad0.out] at E0 | (simp only [Int.reduceToNat] at E0; rw [← ad0.out] at E0)); have n_ := A4_ (Kd.R_lower E0 (keep_size (w := w) (g := g) (row := none) zq6f_)) (IsS110.below zq7a_ hb) (KeepBut.trans zq6f_ (KeepBut.of_below hb g none) (.inl rfl)) (below_step zq5f_ hb); clear p0 HK HB; obtain ⟨j0, p0, HK, HB⟩ := n_; clear hb E0) | ((with_reducible refine gate_callee (f := 91) rfl ?_); refine gl_ 26 Try.func91 #[.pointer (some ⟨g, 0, none⟩), .int .i64 8] ?_; (with_reducible refine (spec_l15Rd_pick.calls k g C0 e1 8 e2 e3 w0 _ ?_ ?_ B2.out).mono ?_); exact zq7a_; exact zq5f_; rintro e r4 ⟨rfl, hi, hb, hk⟩; refine ⟨_, rfl, ?_⟩; have n_ := A4_ (Kd.R_mono (Kd.R_keep (IsS110.apart (show IsS110 w0 _ g C0 e1 from by repeat (first | (with_reducible first | exact p0.out | apply IsS110.alloc | apply IsS110.drewN | apply IsS110.drew | apply IsS110.set_1) | exact p0.out)) zq14_ (by decide)) hk (fun _ h => h.2)) (fun _ h => h.1)) (KeepBut.trans zq6f_ hk (.inl rfl)) (hb) (hi); clear j0 HK HB p0; obtain ⟨j0, HK, HB, p0⟩ := n_; (try clear hb)))
  go_loopg [5, 6] k (fun kq v5 v6 w' => ∃ (a0 : List (S34)) (a1 : Int) (a2 : Int), v6 = .int .i64 a1 ∧ Aside0 (spec_l2Prog.l0 kq a0 a1 C0 a2 = some (r1, r2)) ∧ Aside0 (kq ≤ k) ∧ Aside0 (Kd.R k34 34 w' w.heap.size (fun _ => True) v5 a0) ∧ Aside0 (IsS110 w0 w' g C0 a2) ∧ Aside0 (KeepBut w w' g none) ∧ Aside0 (Below w0.heap.size w0 w'))
  case atStart => exact ⟨(K0), (e2), (e3), zq5a_, H', ⟨Nat.le_refl _⟩, ⟨zq14_⟩, ⟨zq7a_⟩, ⟨zq6f_⟩, ⟨zq5f_⟩⟩
  case round =>
   clear H'
   try clear p2
   try clear c3
   try clear s0
   try clear s1
   try clear c4
   try clear p6
   try clear c9
   obtain ⟨a0, a1, a2, rfl, HA, Z0, k0, p0, HK, HB⟩ := hrel
   cases gk with
   | zero => exact absurd HA.out (by simp [spec_l2Prog.l0])
   | succ k1 =>
    have H := HA.out; clear HA; simp only [spec_l2Prog.l0] at H; replace H := ifc_ H
    rcases H with ⟨c18b0, H⟩ | ⟨c18b0, H⟩
    ·change decide (0 < a1) = true at c18b0; replace H := Option.bind_eq_some_iff.mp H; obtain ⟨⟨e4, e5, e6, e7, e8⟩, B3, H⟩ := H; (try dsimp only at H); have B4 := Aside0.mk B3; clear B3; replace H := ifp_ H; obtain ⟨v0, H⟩ := H; have bg0 := Aside0.mk v0; clear v0; obtain ⟨K1, M1⟩ : ∃ y_ : List (S34), y_ = (a0 ++ [(⟨e4, e5, e6, e7⟩ : S34)]) := ⟨_, rfl⟩; replace H : (spec_l2Prog.l0 k1 K1 (wrap64 (a1 - 1)) C0 e8) = some (r1, r2) := by first | (rw [M1]; with_reducible exact H) | (have T0 := (Option.bind_some _ _).symm.trans H; rw [M1]; with_reducible exact T0) | (have T0 := (Option.bind_some _ _).symm.trans H; with_reducible exact T0) | with_reducible exact H | (rw [M1]; exact H) | exact H
     have ad1 := Aside0.mk M1; clear M1; have H' := Aside0.mk H; clear H
     go_wp2_with (first | ((with_reducible refine gate_callee (f := 106) rfl ?_); refine gl_ 33 Try.func106 #[.pointer (some ⟨g, 0, none⟩)] ?_; (with_reducible refine (spec_l2Any.calls k1 g C0 a2 e4 e5 e6 e7 e8 w0 _ ?_ ?_ B4.out).mono ?_); exact zq7a_; exact zq5f_; rintro e r5 ⟨rfl, hi, hb, hk⟩; refine ⟨_, rfl, ?_⟩; have n_ := A4_ (Kd.R_mono (Kd.R_keep (IsS110.apart (show IsS110 w0 _ g C0 a2 from by repeat (first | (with_reducible first | exact p0.out | apply IsS110.alloc | apply IsS110.drewN | apply IsS110.drew | apply IsS110.set_1) | exact p0.out)) zq1f_ (by decide)) hk (fun _ h => h.2)) (fun _ h => h.1)) (KeepBut.trans zq6f_ hk (.inl rfl)) (hb) (hi); clear k0 HK HB p0; obtain ⟨k0, HK, HB, p0⟩ := n_; (try clear hb); (try clear hk); (try clear hi)) | ((with_reducible refine gate_builtin (b := .append) (xs := #[.tmp 31, .tmp 34]) rfl ?_); at_builtin; refine Kd.R_append k34 w.heap.size rfl (.tmp 31) (.tmp 34) 24 34 (.agg #[(.int .i64 0), (.int .i64 0), (.int .i64 0), (.int .i64 0)]) 32 rfl Try.underlying24 info34 rfl (by decide) (by omega) u5 a0 (⟨e4, e5, e6, e7⟩ : S34) [.int .i64 e4, .int .i64 e5, .int .i64 e6, .int .i64 e7] (fun _ => True) (fun _ => False) rfl rfl ?aP (fun _ hk => hk.elim) ?aF ?aO (Below.refl _ _) ?aS ?aL ?_; (case aP => exact k34_mkM _ _ _ (⟨e4, e5, e6, e7⟩ : S34)); (case aF => exact (fun _ _ => trivial)); (case aO => exact zq1f_); (case aS => exact (keep_size (w := w) (g := g) (row := none) zq6f_)); (case aL => have := bg0.out; omega); intro X1 r6 ho hb hg bf; rw [← ad1.out] at ho; have n_ := A4_ (IsS110.grown zq7a_ hg (IsS110.own_ne p0.out k0.out (by decide))) (below_weaken zq5f_ HL.out hb) (KeepBut.trans zq6f_ (KeepBut.of_grown hg g) (Kd.R_base2 k0.out)) (ho); clear p0 HB HK k0; obtain ⟨p0, HB, HK, j1⟩ := n_; clear ho hb hg bf))
     go_roundg k1
     case measure => have := Z0.out; omega
     case rel => exact ⟨(K1), (wrap64 (a1 - 1)), (e8), zq5a_, H', ⟨by have := Z0.out; omega⟩, ⟨zq15_⟩, ⟨zq7a_⟩, ⟨zq6f_⟩, ⟨zq5f_⟩⟩
    ·change decide (0 < a1) = false at c18b0; simp only [Option.some.injEq, Prod.mk.injEq] at H; obtain ⟨rfl, rfl⟩ := H
     go_wp2
     go_ret
     exact ⟨_, zq59_, zq1f_, zq7a_, zq5f_, zq6f_⟩

/-! ### spec_l2Bent: function 59 -/
def spec_l2Bent.l0 : Nat → List (S34) → Int → List Int → Int → Option ((List (S34)) × Int)
 | 0, _, _, _, _ => none
 | k + 1, x3, x4, x1000, x1001 => if (x3.length : Int) < 11 then (if 0 ≤ x4 then (if x4 < (x3.length : Int) then (if x3.length < 4398046511104 then (spec_l2Bent.l0 k (x3 ++ [(⟨(rd_T34 x3 x4).f0, (rd_T34 x3 x4).f1, (rd_T34 x3 x4).f2, (rd_T34 x3 x4).f3⟩ : S34)]) x4 x1000 x1001) else (none)) else (none)) else (none)) else (some (x3, x1001))
def spec_l2Bent.f (k : Nat) (s0_0 : List Int) (s0_1 : Int) : Option ((List (S34)) × Int) := (spec_l2Prog.f k s0_0 s0_1).bind fun bt193 => (if (bt193.1.length : Int) = 0 then (some (bt193.1, bt193.2)) else ((spec_l15Rd_pick.f k s0_0 bt193.2 (bt193.1.length : Int)).bind fun bt197 => ((spec_l15Rd_pick.f k s0_0 bt197.2 40).bind fun bt199 => (if bt199.1 = 0 then ((spec_l15Rd_num.f k s0_0 bt199.2 (([0, 8] : List Int))).bind fun bt204 => (if 0 ≤ bt197.1 then (if bt197.1 < (bt193.1.length : Int) then (some ((bt193.1.set (bt197.1 : Int).toNat (⟨bt204.1, (rd_T34 bt193.1 bt197.1).f1, (rd_T34 bt193.1 bt197.1).f2, (rd_T34 bt193.1 bt197.1).f3⟩ : S34)), bt204.2)) else (none)) else (none))) else (if bt199.1 = 1 then ((spec_l15Rd_num.f k s0_0 bt199.2 (([(-1), 4] : List Int))).bind fun bt210 => (if 0 ≤ bt197.1 then (if bt197.1 < (bt193.1.length : Int) then (some ((bt193.1.set (bt197.1 : Int).toNat (⟨(rd_T34 bt193.1 bt197.1).f0, bt210.1, (rd_T34 bt193.1 bt197.1).f2, (rd_T34 bt193.1 bt197.1).f3⟩ : S34)), bt210.2)) else (none)) else (none))) else (if bt199.1 = 2 then ((spec_l15Rd_num.f k s0_0 bt199.2 (([(-1), 11, 2000000] : List Int))).bind fun bt216 => (if 0 ≤ bt197.1 then (if bt197.1 < (bt193.1.length : Int) then (some ((bt193.1.set (bt197.1 : Int).toNat (⟨(rd_T34 bt193.1 bt197.1).f0, (rd_T34 bt193.1 bt197.1).f1, (rd_T34 bt193.1 bt197.1).f2, bt216.1⟩ : S34)), bt216.2)) else (none)) else (none))) else (if bt199.1 = 3 then (spec_l2Bent.l0 k bt193.1 bt197.1 s0_0 bt199.2) else (some (bt193.1, bt199.2)))))))))
theorem spec_l2Bent.mono_l : ∀ k, (∀ y0 y1 y2 y3, LeO (spec_l2Bent.l0 k y0 y1 y2 y3) (spec_l2Bent.l0 (k + 1) y0 y1 y2 y3))
 | 0 => fun _ _ _ _ r h => by simp [spec_l2Bent.l0] at h
 | k + 1 => by
  have H0 := spec_l2Bent.mono_l k
  ·intro y0 y1 y2 y3
   unfold spec_l2Bent.l0
   repeat' first
   | (with_reducible exact H0 _ _ _ _)
   | (with_reducible exact spec_l15Rd_num.mono _ _ _ _)
   | (with_reducible exact spec_l15Rd_pick.mono _ _ _ _)
   | (with_reducible exact spec_l2Prog.mono _ _ _)
   | (with_reducible exact LeO.refl _)
   | (with_reducible exact LeO.none _)
   | (with_reducible refine LeO.ite ?_ ?_)
   | (with_reducible refine LeO.bind ?_ (fun _ => ?_))
   | exact H0 _ _ _ _
   | exact spec_l15Rd_num.mono _ _ _ _
   | exact spec_l15Rd_pick.mono _ _ _ _
   | exact spec_l2Prog.mono _ _ _
   | exact LeO.none _
   | refine LeO.ite ?_ ?_
   | refine LeO.bind ?_ (fun _ => ?_)
theorem spec_l2Bent.mono : ∀ a0 a1 k, LeO (spec_l2Bent.f k a0 a1) (spec_l2Bent.f (k + 1) a0 a1) := by
 intro a0 a1 k
 have H0 := spec_l2Bent.mono_l k
 unfold spec_l2Bent.f
 repeat' first
   | (with_reducible exact H0 _ _ _ _)
   | (with_reducible exact spec_l15Rd_num.mono _ _ _ _)
   | (with_reducible exact spec_l15Rd_pick.mono _ _ _ _)
   | (with_reducible exact spec_l2Prog.mono _ _ _)
   | (with_reducible exact LeO.refl _)
   | (with_reducible exact LeO.none _)
   | (with_reducible refine LeO.ite ?_ ?_)
   | (with_reducible refine LeO.bind ?_ (fun _ => ?_))
   | exact H0 _ _ _ _
   | exact spec_l15Rd_num.mono _ _ _ _
   | exact spec_l15Rd_pick.mono _ _ _ _
   | exact spec_l2Prog.mono _ _ _
   | exact LeO.none _
   | refine LeO.ite ?_ ?_
   | refine LeO.bind ?_ (fun _ => ?_)
set_option maxHeartbeats 8000000 in
set_option maxRecDepth 100000 in
theorem spec_l2Bent.calls (k : Nat) (g : Nat) (C0 : List Int) (C1 : Int) (r1 : List (S34)) (r2 : Int) (w0 w : World) (hI : IsS110 w0 w g C0 C1) (hB : Below w0.heap.size w0 w) (h : spec_l2Bent.f k C0 C1 = some (r1, r2)) :
  Calls Try.prog 59 #[.pointer (some ⟨g, 0, none⟩)] w fun e w' => ∃ v0_ : Value, e = .returned (v0_) ∧ Kd.R k34 34 w' w.heap.size (fun _ => True) v0_ r1 ∧ IsS110 w0 w' g C0 r2 ∧ Below w0.heap.size w0 w' ∧ KeepBut w w' g none := by
 have ap0 := Try.underlying34; have p0 := Aside0.mk hI; have HK := Aside0.mk (KeepBut.refl w g none); have HL := Aside0.mk hB.size; clear hI; have aX0 := Aside0.mk hB.size; have HB := Aside0.mk hB; clear hB; have H : ((spec_l2Prog.f k C0 C1).bind fun L0 => (if (L0.1.length : Int) = 0 then (some (L0.1, L0.2)) else ((spec_l15Rd_pick.f k C0 L0.2 (L0.1.length : Int)).bind fun L1 => ((spec_l15Rd_pick.f k C0 L1.2 40).bind fun L2 => (if L2.1 = 0 then ((spec_l15Rd_num.f k C0 L2.2 (([0, 8] : List Int))).bind fun L3 => (if 0 ≤ L1.1 then (if L1.1 < (L0.1.length : Int) then (some ((L0.1.set (L1.1 : Int).toNat (⟨L3.1, (rd_T34 L0.1 L1.1).f1, (rd_T34 L0.1 L1.1).f2, (rd_T34 L0.1 L1.1).f3⟩ : S34)), L3.2)) else (none)) else (none))) else (if L2.1 = 1 then ((spec_l15Rd_num.f k C0 L2.2 (([(-1), 4] : List Int))).bind fun L4 => (if 0 ≤ L1.1 then (if L1.1 < (L0.1.length : Int) then (some ((L0.1.set (L1.1 : Int).toNat (⟨(rd_T34 L0.1 L1.1).f0, L4.1, (rd_T34 L0.1 L1.1).f2, (rd_T34 L0.1 L1.1).f3⟩ : S34)), L4.2)) else (none)) else (none))) else (if L2.1 = 2 then ((spec_l15Rd_num.f k C0 L2.2 (([(-1), 11, 2000000] : List Int))).bind fun L5 => (if 0 ≤ L1.1 then (if L1.1 < (L0.1.length : Int) then (some ((L0.1.set (L1.1 : Int).toNat (⟨(rd_T34 L0.1 L1.1).f0, (rd_T34 L0.1 L1.1).f1, (rd_T34 L0.1 L1.1).f2, L5.1⟩ : S34)), L5.2)) else (none)) else (none))) else (if L2.1 = 3 then (spec_l2Bent.l0 k L0.1 L1.1 C0 L2.2) else (some (L0.1, L2.2)))))))))) = some (r1, r2) := h; clear h; replace H := Option.bind_eq_some_iff.mp H; obtain ⟨⟨e0, e1⟩, B0, H⟩ := H; (try dsimp only at H); have A2 := Aside0.mk B0; clear B0; by_cases c3 : (e0.length : Int) = 0
 ·rw [if_pos c3] at H; have s0 : ((e0.length : Int) == 0) = true := beq_iff_eq.mpr c3; have s1 : ((e0.length : Int) != 0) = false := bne_eq_false_iff_eq.mpr c3; clear c3; simp only [Option.some.injEq, Prod.mk.injEq] at H; obtain ⟨rfl, rfl⟩ := H
  go_enter Try.func59, Try.ntmps59
  go_wp2_with (first | ((with_reducible refine gate_callee (f := 92) rfl ?_); refine gl_ 6 Try.func92 #[.pointer (some ⟨g, 0, none⟩)] ?_; (with_reducible refine (spec_l2Prog.calls k g C0 C1 e0 e1 w0 _ ?_ ?_ A2.out).mono ?_); exact zq7a_; exact zq5f_; rintro e w4 ⟨X0, rfl, E0, hi, hb, hk⟩; refine ⟨_, rfl, ?_⟩; have n_ := A4_ (Kd.R_lower E0 (keep_size (w := w) (g := g) (row := none) zq6f_)) (KeepBut.trans zq6f_ hk (.inl rfl)) (hb) (hi); clear HK HB p0; obtain ⟨j0, HK, HB, p0⟩ := n_; (try clear hb); (try clear hk); (try clear hi); (try clear E0); obtain ⟨o0, m0, D0⟩ := Kd.R_slice j0.out; subst D0))
  go_ret
  exact ⟨_, zq59_, zq14_, zq7a_, zq5f_, zq6f_⟩
 ·rw [if_neg c3] at H; have s0 : ((e0.length : Int) == 0) = false := beq_eq_false_iff_ne.mpr c3; have s1 : ((e0.length : Int) != 0) = true := bne_iff_ne.mpr c3; have s2 : ¬ (e0 = []) := fun h_ => c3 (by rw [h_]; rfl)
  replace H := Option.bind_eq_some_iff.mp H; obtain ⟨⟨e2, e3⟩, B1, H⟩ := H; (try dsimp only at H); have A6 := Aside0.mk B1; clear B1; replace H := Option.bind_eq_some_iff.mp H; obtain ⟨⟨e4, e5⟩, B2, H⟩ := H; (try dsimp only at H); have A7 := Aside0.mk B2; clear B2; by_cases c8 : e4 = 0
  ·rw [if_pos c8] at H; have s3 : (e4 == 0) = true := beq_iff_eq.mpr c8; have s4 : (e4 != 0) = false := bne_eq_false_iff_eq.mpr c8; clear c8; obtain ⟨K0, M0⟩ : ∃ y_ : List Int, y_ = (([0, 8] : List Int)) := ⟨_, rfl⟩; replace H : ((spec_l15Rd_num.f k C0 e5 K0).bind fun L3 => (if 0 ≤ e2 then (if e2 < (e0.length : Int) then (some ((e0.set (e2 : Int).toNat (⟨L3.1, (rd_T34 e0 e2).f1, (rd_T34 e0 e2).f2, (rd_T34 e0 e2).f3⟩ : S34)), L3.2)) else (none)) else (none))) = some (r1, r2) := by first | (rw [M0]; with_reducible exact H) | (have T0 := (Option.bind_some _ _).symm.trans H; rw [M0]; with_reducible exact T0) | (have T0 := (Option.bind_some _ _).symm.trans H; with_reducible exact T0) | with_reducible exact H | (rw [M0]; exact H) | exact H
   have ad0 := Aside0.mk M0; clear M0; replace H := Option.bind_eq_some_iff.mp H; obtain ⟨⟨e6, e7⟩, B3, H⟩ := H; (try dsimp only at H); have A9 := Aside0.mk B3; clear B3; replace H := ifd2_ H; obtain ⟨s5, s6, H⟩ := H; obtain ⟨K1, M1⟩ : ∃ y_ : List (S34), y_ = (e0.set (e2 : Int).toNat (⟨e6, (rd_T34 e0 e2).f1, (rd_T34 e0 e2).f2, (rd_T34 e0 e2).f3⟩ : S34)) := ⟨_, rfl⟩; replace H : (some (K1, e7)) = some (r1, r2) := by first | (rw [M1]; with_reducible exact H) | (have T0 := (Option.bind_some _ _).symm.trans H; rw [M1]; with_reducible exact T0) | (have T0 := (Option.bind_some _ _).symm.trans H; with_reducible exact T0) | with_reducible exact H | (rw [M1]; exact H) | exact H
   have ad1 := Aside0.mk M1; clear M1; simp only [Option.some.injEq, Prod.mk.injEq] at H; obtain ⟨rfl, rfl⟩ := H
   go_enter Try.func59, Try.ntmps59
   go_wp2_with (first | ((with_reducible refine gate_callee (f := 92) rfl ?_); refine gl_ 6 Try.func92 #[.pointer (some ⟨g, 0, none⟩)] ?_; (with_reducible refine (spec_l2Prog.calls k g C0 C1 e0 e1 w0 _ ?_ ?_ A2.out).mono ?_); exact zq7a_; exact zq5f_; rintro e r0 ⟨X0, rfl, E0, hi, hb, hk⟩; refine ⟨_, rfl, ?_⟩; have n_ := A4_ (Kd.R_lower E0 (keep_size (w := w) (g := g) (row := none) zq6f_)) (KeepBut.trans zq6f_ hk (.inl rfl)) (hb) (hi); clear HK HB p0; obtain ⟨j0, HK, HB, p0⟩ := n_; (try clear hb); (try clear hk); (try clear hi); (try clear E0); obtain ⟨o0, m0, D0⟩ := Kd.R_slice j0.out; subst D0) | ((with_reducible refine gate_callee (f := 91) rfl ?_); refine gl_ 14 Try.func91 #[.pointer (some ⟨g, 0, none⟩), .int .i64 (e0.length : Int)] ?_; (with_reducible refine (spec_l15Rd_pick.calls k g C0 e1 (e0.length : Int) e2 e3 w0 _ ?_ ?_ A6.out).mono ?_); exact zq7a_; exact zq5f_; rintro e r3 ⟨rfl, hi, hb, hk⟩; refine ⟨_, rfl, ?_⟩; have n_ := A4_ (Kd.R_mono (Kd.R_keep (IsS110.apart (show IsS110 w0 _ g C0 e1 from by repeat (first | (with_reducible first | exact p0.out | apply IsS110.alloc | apply IsS110.drewN | apply IsS110.drew | apply IsS110.set_1) | exact p0.out)) zq14_ (by decide)) hk (fun _ h => h.2)) (fun _ h => h.1)) (KeepBut.trans zq6f_ hk (.inl rfl)) (hb) (hi); clear j0 HK HB p0; obtain ⟨j0, HK, HB, p0⟩ := n_; (try clear hb); (try clear hk); (try clear hi)) | ((with_reducible refine gate_callee (f := 91) rfl ?_); refine gl_ 16 Try.func91 #[.pointer (some ⟨g, 0, none⟩), .int .i64 40] ?_; (with_reducible refine (spec_l15Rd_pick.calls k g C0 e3 40 e4 e5 w0 _ ?_ ?_ A7.out).mono ?_); exact zq7a_; exact zq5f_; rintro e r4 ⟨rfl, hi, hb, hk⟩; refine ⟨_, rfl, ?_⟩; have n_ := A4_ (Kd.R_mono (Kd.R_keep (IsS110.apart (show IsS110 w0 _ g C0 e3 from by repeat (first | (with_reducible first | exact p0.out | apply IsS110.alloc | apply IsS110.drewN | apply IsS110.drew | apply IsS110.set_1) | exact p0.out)) zq14_ (by decide)) hk (fun _ h => h.2)) (fun _ h => h.1)) (KeepBut.trans zq6f_ hk (.inl rfl)) (hb) (hi); clear j0 HK HB p0; obtain ⟨j0, HK, HB, p0⟩ := n_; (try clear hb); (try clear hk); (try clear hi)) | ((with_reducible refine gate_dst (N := 22) rfl ?_); refine Kd.R_lit (Kd.int .i64) _ 3 ?hg (N := 22) ?hd (xs := ([0, 8] : List Int)) (inner := [.int .i64 0, .int .i64 8]) (ok := fun _ => True) (okp := fun _ => True) ?hr ?hp (fun _ hk => hk) trivial (Below.refl _ _) (Nat.le_refl _) (by simp) ?_; (case hd => rfl); (case hg => rfl); (case hr => first | (go_simp; done) | (go_simp; rfl)); (case hp => exact (Reps.one (show Kd.M (Kd.int .i64) _ _ _ 0 [.int .i64 0] from rfl) (Reps.one (show Kd.M (Kd.int .i64) _ _ _ 8 [.int .i64 8] from rfl) (Reps.none _ _)))); intro X1 r5 E1 hb aq ar; clear aq ar; (first | rw [← ad0.out] at E1 | (simp only [Int.reduceToNat] at E1; rw [← ad0.out] at E1)); have n_ := A5_ (Kd.R_below zq14_ hb) (Kd.R_lower E1 (keep_size (w := w) (g := g) (row := none) zq6f_)) (IsS110.below zq7a_ hb) (KeepBut.trans zq6f_ (KeepBut.of_below hb g none) (.inl rfl)) (below_step zq5f_ hb); clear j0 p0 HK HB; obtain ⟨j0, j1, p0, HK, HB⟩ := n_; clear hb E1; obtain ⟨o1, m1, D1⟩ := Kd.R_slice j1.out; subst D1) | ((with_reducible refine gate_callee (f := 98) rfl ?_); refine gl_ 23 Try.func98 #[.pointer (some ⟨g, 0, none⟩), .slice o1 K0.length m1] ?_; (with_reducible refine (spec_l15Rd_num.calls k g C0 e5 _ _ K0 e6 e7 w0 _ ?_ ?_ ?_ ?_ ?_ A9.out).mono ?_); exact zq7a_; exact zq5f_; exact zq82_; exact zq46_; exact zq4c_; rintro e r6 ⟨rfl, hi, hb, hk⟩; refine ⟨_, rfl, ?_⟩; have n_ := A5_ (Kd.R_mono (Kd.R_keep (IsS110.apart (show IsS110 w0 _ g C0 e5 from by repeat (first | (with_reducible first | exact p0.out | apply IsS110.alloc | apply IsS110.drewN | apply IsS110.drew | apply IsS110.set_1) | exact p0.out)) zq14_ (by decide)) hk (fun _ h => h.2)) (fun _ h => h.1)) (Kd.R_mono (Kd.R_keep (IsS110.apart (show IsS110 w0 _ g C0 e5 from by repeat (first | (with_reducible first | exact p0.out | apply IsS110.alloc | apply IsS110.drewN | apply IsS110.drew | apply IsS110.set_1) | exact p0.out)) zq15_ (by decide)) hk (fun _ h => h.2)) (fun _ h => h.1)) (KeepBut.trans zq6f_ hk (.inl rfl)) (hb) (hi); clear j0 j1 HK HB p0; obtain ⟨j0, j1, HK, HB, p0⟩ := n_; (try clear hb); have u0 : 0 ≤ (e2 : Int) := of_decide_eq_true zq55_; have t0 : (e2 : Int) < ((e0.length : Int) : Int) := of_decide_eq_true zq55_; obtain ⟨S0, m2, D2, c0, aL0, bl0, au0⟩ := Kd.R_form j0.out (by omega); (first | cases D2 | (injection D2 with ah aM aN; (first | subst ah | (injection ah with ah; subst ah)); subst aN; clear aM)); have aJ0 := Aside0.mk c0; have aY0 := Aside0.mk au0; clear c0 aL0 au0; obtain ⟨bb0, ao0, aj0, af0, ag0⟩ := Kd.R_elem j0.out z34 (e2 : Int) u0 t0; obtain rfl := k34_openM aj0; have q0 : r6.cell? ⟨S0, (e2 : Int).toNat * 4, none⟩ = some (.int .i64 ((rd_T34 e0 e2).f0)) := af0 0 _ rfl; have q3 : r6.cell? ⟨S0, (e2 : Int).toNat * 4 + 1, none⟩ = some (.int .i64 ((rd_T34 e0 e2).f1)) := af0 1 _ rfl; have q5 : r6.cell? ⟨S0, (e2 : Int).toNat * 4 + 2, none⟩ = some (.int .i64 ((rd_T34 e0 e2).f2)) := af0 2 _ rfl; have q6 : r6.cell? ⟨S0, (e2 : Int).toNat * 4 + 3, none⟩ = some (.int .i64 ((rd_T34 e0 e2).f3)) := af0 3 _ rfl; have ak0 : r6.frozen? ⟨S0, (e2 : Int).toNat * 4, none⟩ = false := ag0 0; have ak1 : r6.frozen? ⟨S0, (e2 : Int).toNat * 4 + 1, none⟩ = false := ag0 1; have ak2 : r6.frozen? ⟨S0, (e2 : Int).toNat * 4 + 2, none⟩ = false := ag0 2; have ak3 : r6.frozen? ⟨S0, (e2 : Int).toNat * 4 + 3, none⟩ = false := ag0 3; clear ao0 af0 ag0 aj0; replace u0 := eq_true u0; replace t0 := eq_true t0; have aP0 := Aside0.mk (show Kd.R k34 34 r6 w.heap.size (fun _ => True) (.slice (some ⟨S0, 0, none⟩) e0.length m0) e0 from zq14_); obtain ⟨bb1, ao1, aj1, af1, ag1⟩ := Kd.R_elem aP0.out z34 (e2 : Int) (of_decide_eq_true zq55_) zq9c_; obtain rfl := k34_openM aj1; have al0 := Kd.R_seg aP0.out (e2 : Int) (of_decide_eq_true zq55_) zq9c_ (seg := [.int .i64 e6]) (j := 0) ao1 af1 (show 1 ≤ 4 from by decide) (x' := (⟨e6, (rd_T34 e0 e2).f1, (rd_T34 e0 e2).f2, (rd_T34 e0 e2).f3⟩ : S34)) (k34_mkM _ _ _ (⟨e6, (rd_T34 e0 e2).f1, (rd_T34 e0 e2).f2, (rd_T34 e0 e2).f3⟩ : S34) ) (fun _ hk => hk); have q7 := af1 0 _ rfl; (try simp only [show (k34).sz = 4 from rfl, Nat.mul_one, Nat.add_zero] at q7); have ak4 := ag1 0; (try simp only [show (k34).sz = 4 from rfl, Nat.mul_one, Nat.add_zero] at ak4); clear ao1 af1 ag1 aj1) | ((with_reducible refine gate_store (t := 3) (p := 25) rfl ?_); refine store_event (t := 3) (p := 25) (v := ?vo_w22) (w1 := (r6.setCell ⟨S0, (e2 : Int).toNat * 4, none⟩ (.int .i64 e6))) ?hg ?ho ?hn ?hr ?_; (case ho => rfl); (case hg => rfl); (case hn => rfl); (case hr => first | (go_simp; done) | (go_simp; rfl)); intro r7 hw; have hg : r6.grownBy r7 (some S0) := (by rw [hw]; exact al0.2); have aF_ : Kd.R k34 34 r7 w.heap.size (fun _ => True) (.slice (some ⟨S0, 0, none⟩) e0.length m0) K1 := (by rw [hw, ad1.out]; exact al0.1); clear al0; have n_ := A5_ (IsS110.grown zq7a_ hg (IsS110.own_ne p0.out j0.out (by decide))) (aF_) (Kd.R_over' (v := (.slice (some ⟨S0, 0, none⟩) e0.length m0)) zq15_ (Kd.R_typed j0.out) (by decide) hg) ((by rw [hw]; exact below_set (HB.out) (Nat.le_trans HL.out aJ0.out) : Below w0.heap.size w0 r7)) (KeepBut.trans zq6f_ (KeepBut.of_grown hg g) (Kd.R_base2 j0.out)); clear p0 j0 j1 HB HK; obtain ⟨p0, j0, j1, HB, HK⟩ := n_; clear hg hw aF_))
   go_ret
   exact ⟨_, zq59_, zq14_, zq7a_, zq5f_, zq6f_⟩
  ·rw [if_neg c8] at H; have s3 : (e4 == 0) = false := beq_eq_false_iff_ne.mpr c8; have s4 : (e4 != 0) = true := bne_iff_ne.mpr c8; by_cases v0 : e4 = 1
   ·rw [if_pos v0] at H; have s5 : (e4 == 1) = true := beq_iff_eq.mpr v0; have s6 : (e4 != 1) = false := bne_eq_false_iff_eq.mpr v0; clear v0; obtain ⟨K0, M0⟩ : ∃ y_ : List Int, y_ = (([(-1), 4] : List Int)) := ⟨_, rfl⟩; replace H : ((spec_l15Rd_num.f k C0 e5 K0).bind fun L4 => (if 0 ≤ e2 then (if e2 < (e0.length : Int) then (some ((e0.set (e2 : Int).toNat (⟨(rd_T34 e0 e2).f0, L4.1, (rd_T34 e0 e2).f2, (rd_T34 e0 e2).f3⟩ : S34)), L4.2)) else (none)) else (none))) = some (r1, r2) := by first | (rw [M0]; with_reducible exact H) | (have T0 := (Option.bind_some _ _).symm.trans H; rw [M0]; with_reducible exact T0) | (have T0 := (Option.bind_some _ _).symm.trans H; with_reducible exact T0) | with_reducible exact H | (rw [M0]; exact H) | exact H
    have ad0 := Aside0.mk M0; clear M0; replace H := Option.bind_eq_some_iff.mp H; obtain ⟨⟨e6, e7⟩, B3, H⟩ := H; (try dsimp only at H); have B4 := Aside0.mk B3; clear B3; replace H := ifd2_ H; obtain ⟨s7, s8, H⟩ := H; obtain ⟨K1, M1⟩ : ∃ y_ : List (S34), y_ = (e0.set (e2 : Int).toNat (⟨(rd_T34 e0 e2).f0, e6, (rd_T34 e0 e2).f2, (rd_T34 e0 e2).f3⟩ : S34)) := ⟨_, rfl⟩; replace H : (some (K1, e7)) = some (r1, r2) := by first | (rw [M1]; with_reducible exact H) | (have T0 := (Option.bind_some _ _).symm.trans H; rw [M1]; with_reducible exact T0) | (have T0 := (Option.bind_some _ _).symm.trans H; with_reducible exact T0) | with_reducible exact H | (rw [M1]; exact H) | exact H
    have ad1 := Aside0.mk M1; clear M1; simp only [Option.some.injEq, Prod.mk.injEq] at H; obtain ⟨rfl, rfl⟩ := H
    go_enter Try.func59, Try.ntmps59
    go_wp2_with (first | ((with_reducible refine gate_callee (f := 92) rfl ?_); refine gl_ 6 Try.func92 #[.pointer (some ⟨g, 0, none⟩)] ?_; (with_reducible refine (spec_l2Prog.calls k g C0 C1 e0 e1 w0 _ ?_ ?_ A2.out).mono ?_); exact zq7a_; exact zq5f_; rintro e r0 ⟨X0, rfl, E0, hi, hb, hk⟩; refine ⟨_, rfl, ?_⟩; have n_ := A4_ (Kd.R_lower E0 (keep_size (w := w) (g := g) (row := none) zq6f_)) (KeepBut.trans zq6f_ hk (.inl rfl)) (hb) (hi); clear HK HB p0; obtain ⟨j0, HK, HB, p0⟩ := n_; (try clear hb); (try clear hk); (try clear hi); (try clear E0); obtain ⟨o0, m0, D0⟩ := Kd.R_slice j0.out; subst D0) | ((with_reducible refine gate_callee (f := 91) rfl ?_); refine gl_ 14 Try.func91 #[.pointer (some ⟨g, 0, none⟩), .int .i64 (e0.length : Int)] ?_; (with_reducible refine (spec_l15Rd_pick.calls k g C0 e1 (e0.length : Int) e2 e3 w0 _ ?_ ?_ A6.out).mono ?_); exact zq7a_; exact zq5f_; rintro e r3 ⟨rfl, hi, hb, hk⟩; refine ⟨_, rfl, ?_⟩; have n_ := A4_ (Kd.R_mono (Kd.R_keep (IsS110.apart (show IsS110 w0 _ g C0 e1 from by repeat (first | (with_reducible first | exact p0.out | apply IsS110.alloc | apply IsS110.drewN | apply IsS110.drew | apply IsS110.set_1) | exact p0.out)) zq14_ (by decide)) hk (fun _ h => h.2)) (fun _ h => h.1)) (KeepBut.trans zq6f_ hk (.inl rfl)) (hb) (hi); clear j0 HK HB p0; obtain ⟨j0, HK, HB, p0⟩ := n_; (try clear hb); (try clear hk); (try clear hi)) | ((with_reducible refine gate_callee (f := 91) rfl ?_); refine gl_ 16 Try.func91 #[.pointer (some ⟨g, 0, none⟩), .int .i64 40] ?_; (with_reducible refine (spec_l15Rd_pick.calls k g C0 e3 40 e4 e5 w0 _ ?_ ?_ A7.out).mono ?_); exact zq7a_; exact zq5f_; rintro e r4 ⟨rfl, hi, hb, hk⟩; refine ⟨_, rfl, ?_⟩; have n_ := A4_ (Kd.R_mono (Kd.R_keep (IsS110.apart (show IsS110 w0 _ g C0 e3 from by repeat (first | (with_reducible first | exact p0.out | apply IsS110.alloc | apply IsS110.drewN | apply IsS110.drew | apply IsS110.set_1) | exact p0.out)) zq14_ (by decide)) hk (fun _ h => h.2)) (fun _ h => h.1)) (KeepBut.trans zq6f_ hk (.inl rfl)) (hb) (hi); clear j0 HK HB p0; obtain ⟨j0, HK, HB, p0⟩ := n_; (try clear hb); (try clear hk); (try clear hi)) | ((with_reducible refine gate_dst (N := 31) rfl ?_); refine Kd.R_lit (Kd.int .i64) _ 3 ?hg (N := 31) ?hd (xs := ([(-1), 4] : List Int)) (inner := [.int .i64 (-1), .int .i64 4]) (ok := fun _ => True) (okp := fun _ => True) ?hr ?hp (fun _ hk => hk) trivial (Below.refl _ _) (Nat.le_refl _) (by simp) ?_; (case hd => rfl); (case hg => rfl); (case hr => first | (go_simp; done) | (go_simp; rfl)); (case hp => exact (Reps.one (show Kd.M (Kd.int .i64) _ _ _ (-1) [.int .i64 (-1)] from rfl) (Reps.one (show Kd.M (Kd.int .i64) _ _ _ 4 [.int .i64 4] from rfl) (Reps.none _ _)))); intro X1 r5 E1 hb aq ar; clear aq ar; (first | rw [← ad0.out] at E1 | (simp only [Int.reduceToNat] at E1; rw [← ad0.out] at E1)); have n_ := A5_ (Kd.R_below zq14_ hb) (Kd.R_lower E1 (keep_size (w := w) (g := g) (row := none) zq6f_)) (IsS110.below zq7a_ hb) (KeepBut.trans zq6f_ (KeepBut.of_below hb g none) (.inl rfl)) (below_step zq5f_ hb); clear j0 p0 HK HB; obtain ⟨j0, j1, p0, HK, HB⟩ := n_; clear hb E1; obtain ⟨o1, m1, D1⟩ := Kd.R_slice j1.out; subst D1) | ((with_reducible refine gate_callee (f := 98) rfl ?_); refine gl_ 32 Try.func98 #[.pointer (some ⟨g, 0, none⟩), .slice o1 K0.length m1] ?_; (with_reducible refine (spec_l15Rd_num.calls k g C0 e5 _ _ K0 e6 e7 w0 _ ?_ ?_ ?_ ?_ ?_ B4.out).mono ?_); exact zq7a_; exact zq5f_; exact zq82_; exact zq46_; exact zq4c_; rintro e r6 ⟨rfl, hi, hb, hk⟩; refine ⟨_, rfl, ?_⟩; have n_ := A5_ (Kd.R_mono (Kd.R_keep (IsS110.apart (show IsS110 w0 _ g C0 e5 from by repeat (first | (with_reducible first | exact p0.out | apply IsS110.alloc | apply IsS110.drewN | apply IsS110.drew | apply IsS110.set_1) | exact p0.out)) zq14_ (by decide)) hk (fun _ h => h.2)) (fun _ h => h.1)) (Kd.R_mono (Kd.R_keep (IsS110.apart (show IsS110 w0 _ g C0 e5 from by repeat (first | (with_reducible first | exact p0.out | apply IsS110.alloc | apply IsS110.drewN | apply IsS110.drew | apply IsS110.set_1) | exact p0.out)) zq15_ (by decide)) hk (fun _ h => h.2)) (fun _ h => h.1)) (KeepBut.trans zq6f_ hk (.inl rfl)) (hb) (hi); clear j0 j1 HK HB p0; obtain ⟨j0, j1, HK, HB, p0⟩ := n_; (try clear hb); have u0 : 0 ≤ (e2 : Int) := of_decide_eq_true zq55_; have t0 : (e2 : Int) < ((e0.length : Int) : Int) := of_decide_eq_true zq55_; obtain ⟨S0, m2, D2, c0, aL0, bl0, au0⟩ := Kd.R_form j0.out (by omega); (first | cases D2 | (injection D2 with ah aM aN; (first | subst ah | (injection ah with ah; subst ah)); subst aN; clear aM)); have aJ0 := Aside0.mk c0; have aY0 := Aside0.mk au0; clear c0 aL0 au0; obtain ⟨bb0, ao0, aj0, af0, ag0⟩ := Kd.R_elem j0.out z34 (e2 : Int) u0 t0; obtain rfl := k34_openM aj0; have q0 : r6.cell? ⟨S0, (e2 : Int).toNat * 4, none⟩ = some (.int .i64 ((rd_T34 e0 e2).f0)) := af0 0 _ rfl; have q3 : r6.cell? ⟨S0, (e2 : Int).toNat * 4 + 1, none⟩ = some (.int .i64 ((rd_T34 e0 e2).f1)) := af0 1 _ rfl; have q5 : r6.cell? ⟨S0, (e2 : Int).toNat * 4 + 2, none⟩ = some (.int .i64 ((rd_T34 e0 e2).f2)) := af0 2 _ rfl; have q6 : r6.cell? ⟨S0, (e2 : Int).toNat * 4 + 3, none⟩ = some (.int .i64 ((rd_T34 e0 e2).f3)) := af0 3 _ rfl; have ak0 : r6.frozen? ⟨S0, (e2 : Int).toNat * 4, none⟩ = false := ag0 0; have ak1 : r6.frozen? ⟨S0, (e2 : Int).toNat * 4 + 1, none⟩ = false := ag0 1; have ak2 : r6.frozen? ⟨S0, (e2 : Int).toNat * 4 + 2, none⟩ = false := ag0 2; have ak3 : r6.frozen? ⟨S0, (e2 : Int).toNat * 4 + 3, none⟩ = false := ag0 3; clear ao0 af0 ag0 aj0; replace u0 := eq_true u0; replace t0 := eq_true t0; have aP0 := Aside0.mk (show Kd.R k34 34 r6 w.heap.size (fun _ => True) (.slice (some ⟨S0, 0, none⟩) e0.length m0) e0 from zq14_); obtain ⟨bb1, ao1, aj1, af1, ag1⟩ := Kd.R_elem aP0.out z34 (e2 : Int) (of_decide_eq_true zq55_) zq9c_; obtain rfl := k34_openM aj1; have al0 := Kd.R_seg aP0.out (e2 : Int) (of_decide_eq_true zq55_) zq9c_ (seg := [.int .i64 e6]) (j := 1) ao1 af1 (show 2 ≤ 4 from by decide) (x' := (⟨(rd_T34 e0 e2).f0, e6, (rd_T34 e0 e2).f2, (rd_T34 e0 e2).f3⟩ : S34)) (k34_mkM _ _ _ (⟨(rd_T34 e0 e2).f0, e6, (rd_T34 e0 e2).f2, (rd_T34 e0 e2).f3⟩ : S34) ) (fun _ hk => hk); have q7 := af1 1 _ rfl; (try simp only [show (k34).sz = 4 from rfl, Nat.mul_one, Nat.add_zero] at q7); have ak4 := ag1 1; (try simp only [show (k34).sz = 4 from rfl, Nat.mul_one, Nat.add_zero] at ak4); clear ao1 af1 ag1 aj1) | ((with_reducible refine gate_store (t := 3) (p := 34) rfl ?_); refine store_event (t := 3) (p := 34) (v := ?vo_w37) (w1 := (r6.setCell ⟨S0, (e2 : Int).toNat * 4 + 1, none⟩ (.int .i64 e6))) ?hg ?ho ?hn ?hr ?_; (case ho => rfl); (case hg => rfl); (case hn => rfl); (case hr => first | (go_simp; done) | (go_simp; rfl)); intro r7 hw; have hg : r6.grownBy r7 (some S0) := (by rw [hw]; exact al0.2); have aF_ : Kd.R k34 34 r7 w.heap.size (fun _ => True) (.slice (some ⟨S0, 0, none⟩) e0.length m0) K1 := (by rw [hw, ad1.out]; exact al0.1); clear al0; have n_ := A5_ (IsS110.grown zq7a_ hg (IsS110.own_ne p0.out j0.out (by decide))) (aF_) (Kd.R_over' (v := (.slice (some ⟨S0, 0, none⟩) e0.length m0)) zq15_ (Kd.R_typed j0.out) (by decide) hg) ((by rw [hw]; exact below_set (HB.out) (Nat.le_trans HL.out aJ0.out) : Below w0.heap.size w0 r7)) (KeepBut.trans zq6f_ (KeepBut.of_grown hg g) (Kd.R_base2 j0.out)); clear p0 j0 j1 HB HK; obtain ⟨p0, j0, j1, HB, HK⟩ := n_; clear hg hw aF_))
    go_ret
    exact ⟨_, zq59_, zq14_, zq7a_, zq5f_, zq6f_⟩
   ·rw [if_neg v0] at H; have s5 : (e4 == 1) = false := beq_eq_false_iff_ne.mpr v0; have s6 : (e4 != 1) = true := bne_iff_ne.mpr v0; by_cases v1 : e4 = 2
    ·rw [if_pos v1] at H; have s7 : (e4 == 2) = true := beq_iff_eq.mpr v1; have s8 : (e4 != 2) = false := bne_eq_false_iff_eq.mpr v1; clear v1; obtain ⟨K0, M0⟩ : ∃ y_ : List Int, y_ = (([(-1), 11, 2000000] : List Int)) := ⟨_, rfl⟩; replace H : ((spec_l15Rd_num.f k C0 e5 K0).bind fun L5 => (if 0 ≤ e2 then (if e2 < (e0.length : Int) then (some ((e0.set (e2 : Int).toNat (⟨(rd_T34 e0 e2).f0, (rd_T34 e0 e2).f1, (rd_T34 e0 e2).f2, L5.1⟩ : S34)), L5.2)) else (none)) else (none))) = some (r1, r2) := by first | (rw [M0]; with_reducible exact H) | (have T0 := (Option.bind_some _ _).symm.trans H; rw [M0]; with_reducible exact T0) | (have T0 := (Option.bind_some _ _).symm.trans H; with_reducible exact T0) | with_reducible exact H | (rw [M0]; exact H) | exact H
     have ad0 := Aside0.mk M0; clear M0; replace H := Option.bind_eq_some_iff.mp H; obtain ⟨⟨e6, e7⟩, B3, H⟩ := H; (try dsimp only at H); have B4 := Aside0.mk B3; clear B3; replace H := ifd2_ H; obtain ⟨s9, s10, H⟩ := H; obtain ⟨K1, M1⟩ : ∃ y_ : List (S34), y_ = (e0.set (e2 : Int).toNat (⟨(rd_T34 e0 e2).f0, (rd_T34 e0 e2).f1, (rd_T34 e0 e2).f2, e6⟩ : S34)) := ⟨_, rfl⟩; replace H : (some (K1, e7)) = some (r1, r2) := by first | (rw [M1]; with_reducible exact H) | (have T0 := (Option.bind_some _ _).symm.trans H; rw [M1]; with_reducible exact T0) | (have T0 := (Option.bind_some _ _).symm.trans H; with_reducible exact T0) | with_reducible exact H | (rw [M1]; exact H) | exact H
     have ad1 := Aside0.mk M1; clear M1; simp only [Option.some.injEq, Prod.mk.injEq] at H; obtain ⟨rfl, rfl⟩ := H
     go_enter Try.func59, Try.ntmps59
     go_wp2_with (first | ((with_reducible refine gate_callee (f := 92) rfl ?_); refine gl_ 6 Try.func92 #[.pointer (some ⟨g, 0, none⟩)] ?_; (with_reducible refine (spec_l2Prog.calls k g C0 C1 e0 e1 w0 _ ?_ ?_ A2.out).mono ?_); exact zq7a_; exact zq5f_; rintro e r0 ⟨X0, rfl, E0, hi, hb, hk⟩; refine ⟨_, rfl, ?_⟩; have n_ := A4_ (Kd.R_lower E0 (keep_size (w := w) (g := g) (row := none) zq6f_)) (KeepBut.trans zq6f_ hk (.inl rfl)) (hb) (hi); clear HK HB p0; obtain ⟨j0, HK, HB, p0⟩ := n_; (try clear hb); (try clear hk); (try clear hi); (try clear E0); obtain ⟨o0, m0, D0⟩ := Kd.R_slice j0.out; subst D0) | ((with_reducible refine gate_callee (f := 91) rfl ?_); refine gl_ 14 Try.func91 #[.pointer (some ⟨g, 0, none⟩), .int .i64 (e0.length : Int)] ?_; (with_reducible refine (spec_l15Rd_pick.calls k g C0 e1 (e0.length : Int) e2 e3 w0 _ ?_ ?_ A6.out).mono ?_); exact zq7a_; exact zq5f_; rintro e r3 ⟨rfl, hi, hb, hk⟩; refine ⟨_, rfl, ?_⟩; have n_ := A4_ (Kd.R_mono (Kd.R_keep (IsS110.apart (show IsS110 w0 _ g C0 e1 from by repeat (first | (with_reducible first | exact p0.out | apply IsS110.alloc | apply IsS110.drewN | apply IsS110.drew | apply IsS110.set_1) | exact p0.out)) zq14_ (by decide)) hk (fun _ h => h.2)) (fun _ h => h.1)) (KeepBut.trans zq6f_ hk (.inl rfl)) (hb) (hi); clear j0 HK HB p0; obtain ⟨j0, HK, HB, p0⟩ := n_; (try clear hb); (try clear hk); (try clear hi)) | ((with_reducible refine gate_callee (f := 91) rfl ?_); refine gl_ 16 Try.func91 #[.pointer (some ⟨g, 0, none⟩), .int .i64 40] ?_; (with_reducible refine (spec_l15Rd_pick.calls k g C0 e3 40 e4 e5 w0 _ ?_ ?_ A7.out).mono ?_); exact zq7a_; exact zq5f_; rintro e r4 ⟨rfl, hi, hb, hk⟩; refine ⟨_, rfl, ?_⟩; have n_ := A4_ (Kd.R_mono (Kd.R_keep (IsS110.apart (show IsS110 w0 _ g C0 e3 from by repeat (first | (with_reducible first | exact p0.out | apply IsS110.alloc | apply IsS110.drewN | apply IsS110.drew | apply IsS110.set_1) | exact p0.out)) zq14_ (by decide)) hk (fun _ h => h.2)) (fun _ h => h.1)) (KeepBut.trans zq6f_ hk (.inl rfl)) (hb) (hi); clear j0 HK HB p0; obtain ⟨j0, HK, HB, p0⟩ := n_; (try clear hb); (try clear hk); (try clear hi)) | ((with_reducible refine gate_dst (N := 40) rfl ?_); refine Kd.R_lit (Kd.int .i64) _ 3 ?hg (N := 40) ?hd (xs := ([(-1), 11, 2000000] : List Int)) (inner := [.int .i64 (-1), .int .i64 11, .int .i64 2000000]) (ok := fun _ => True) (okp := fun _ => True) ?hr ?hp (fun _ hk => hk) trivial (Below.refl _ _) (Nat.le_refl _) (by simp) ?_; (case hd => rfl); (case hg => rfl); (case hr => first | (go_simp; done) | (go_simp; rfl)); (case hp => exact (Reps.one (show Kd.M (Kd.int .i64) _ _ _ (-1) [.int .i64 (-1)] from rfl) (Reps.one (show Kd.M (Kd.int .i64) _ _ _ 11 [.int .i64 11] from rfl) (Reps.one (show Kd.M (Kd.int .i64) _ _ _ 2000000 [.int .i64 2000000] from rfl) (Reps.none _ _))))); intro X1 r5 E1 hb aq ar; clear aq ar; (first | rw [← ad0.out] at E1 | (simp only [Int.reduceToNat] at E1; rw [← ad0.out] at E1)); have n_ := A5_ (Kd.R_below zq14_ hb) (Kd.R_lower E1 (keep_size (w := w) (g := g) (row := none) zq6f_)) (IsS110.below zq7a_ hb) (KeepBut.trans zq6f_ (KeepBut.of_below hb g none) (.inl rfl)) (below_step zq5f_ hb); clear j0 p0 HK HB; obtain ⟨j0, j1, p0, HK, HB⟩ := n_; clear hb E1; obtain ⟨o1, m1, D1⟩ := Kd.R_slice j1.out; subst D1) | ((with_reducible refine gate_callee (f := 98) rfl ?_); refine gl_ 41 Try.func98 #[.pointer (some ⟨g, 0, none⟩), .slice o1 K0.length m1] ?_; (with_reducible refine (spec_l15Rd_num.calls k g C0 e5 _ _ K0 e6 e7 w0 _ ?_ ?_ ?_ ?_ ?_ B4.out).mono ?_); exact zq7a_; exact zq5f_; exact zq82_; exact zq46_; exact zq4c_; rintro e r6 ⟨rfl, hi, hb, hk⟩; refine ⟨_, rfl, ?_⟩; have n_ := A5_ (Kd.R_mono (Kd.R_keep (IsS110.apart (show IsS110 w0 _ g C0 e5 from by repeat (first | (with_reducible first | exact p0.out | apply IsS110.alloc | apply IsS110.drewN | apply IsS110.drew | apply IsS110.set_1) | exact p0.out)) zq14_ (by decide)) hk (fun _ h => h.2)) (fun _ h => h.1)) (Kd.R_mono (Kd.R_keep (IsS110.apart (show IsS110 w0 _ g C0 e5 from by repeat (first | (with_reducible first | exact p0.out | apply IsS110.alloc | apply IsS110.drewN | apply IsS110.drew | apply IsS110.set_1) | exact p0.out)) zq15_ (by decide)) hk (fun _ h => h.2)) (fun _ h => h.1)) (KeepBut.trans zq6f_ hk (.inl rfl)) (hb) (hi); clear j0 j1 HK HB p0; obtain ⟨j0, j1, HK, HB, p0⟩ := n_; (try clear hb); have u0 : 0 ≤ (e2 : Int) := of_decide_eq_true zq55_; have t0 : (e2 : Int) < ((e0.length : Int) : Int) := of_decide_eq_true zq55_; obtain ⟨S0, m2, D2, c0, aL0, bl0, au0⟩ := Kd.R_form j0.out (by omega); (first | cases D2 | (injection D2 with ah aM aN; (first | subst ah | (injection ah with ah; subst ah)); subst aN; clear aM)); have aJ0 := Aside0.mk c0; have aY0 := Aside0.mk au0; clear c0 aL0 au0; obtain ⟨bb0, ao0, aj0, af0, ag0⟩ := Kd.R_elem j0.out z34 (e2 : Int) u0 t0; obtain rfl := k34_openM aj0; have q0 : r6.cell? ⟨S0, (e2 : Int).toNat * 4, none⟩ = some (.int .i64 ((rd_T34 e0 e2).f0)) := af0 0 _ rfl; have q3 : r6.cell? ⟨S0, (e2 : Int).toNat * 4 + 1, none⟩ = some (.int .i64 ((rd_T34 e0 e2).f1)) := af0 1 _ rfl; have q5 : r6.cell? ⟨S0, (e2 : Int).toNat * 4 + 2, none⟩ = some (.int .i64 ((rd_T34 e0 e2).f2)) := af0 2 _ rfl; have q6 : r6.cell? ⟨S0, (e2 : Int).toNat * 4 + 3, none⟩ = some (.int .i64 ((rd_T34 e0 e2).f3)) := af0 3 _ rfl; have ak0 : r6.frozen? ⟨S0, (e2 : Int).toNat * 4, none⟩ = false := ag0 0; have ak1 : r6.frozen? ⟨S0, (e2 : Int).toNat * 4 + 1, none⟩ = false := ag0 1; have ak2 : r6.frozen? ⟨S0, (e2 : Int).toNat * 4 + 2, none⟩ = false := ag0 2; have ak3 : r6.frozen? ⟨S0, (e2 : Int).toNat * 4 + 3, none⟩ = false := ag0 3; clear ao0 af0 ag0 aj0; replace u0 := eq_true u0; replace t0 := eq_true t0; have aP0 := Aside0.mk (show Kd.R k34 34 r6 w.heap.size (fun _ => True) (.slice (some ⟨S0, 0, none⟩) e0.length m0) e0 from zq14_); obtain ⟨bb1, ao1, aj1, af1, ag1⟩ := Kd.R_elem aP0.out z34 (e2 : Int) (of_decide_eq_true zq55_) zq9c_; obtain rfl := k34_openM aj1; have al0 := Kd.R_seg aP0.out (e2 : Int) (of_decide_eq_true zq55_) zq9c_ (seg := [.int .i64 e6]) (j := 3) ao1 af1 (show 4 ≤ 4 from by decide) (x' := (⟨(rd_T34 e0 e2).f0, (rd_T34 e0 e2).f1, (rd_T34 e0 e2).f2, e6⟩ : S34)) (k34_mkM _ _ _ (⟨(rd_T34 e0 e2).f0, (rd_T34 e0 e2).f1, (rd_T34 e0 e2).f2, e6⟩ : S34) ) (fun _ hk => hk); have q7 := af1 3 _ rfl; (try simp only [show (k34).sz = 4 from rfl, Nat.mul_one, Nat.add_zero] at q7); have ak4 := ag1 3; (try simp only [show (k34).sz = 4 from rfl, Nat.mul_one, Nat.add_zero] at ak4); clear ao1 af1 ag1 aj1) | ((with_reducible refine gate_store (t := 3) (p := 43) rfl ?_); refine store_event (t := 3) (p := 43) (v := ?vo_w52) (w1 := (r6.setCell ⟨S0, (e2 : Int).toNat * 4 + 3, none⟩ (.int .i64 e6))) ?hg ?ho ?hn ?hr ?_; (case ho => rfl); (case hg => rfl); (case hn => rfl); (case hr => first | (go_simp; done) | (go_simp; rfl)); intro r7 hw; have hg : r6.grownBy r7 (some S0) := (by rw [hw]; exact al0.2); have aF_ : Kd.R k34 34 r7 w.heap.size (fun _ => True) (.slice (some ⟨S0, 0, none⟩) e0.length m0) K1 := (by rw [hw, ad1.out]; exact al0.1); clear al0; have n_ := A5_ (IsS110.grown zq7a_ hg (IsS110.own_ne p0.out j0.out (by decide))) (aF_) (Kd.R_over' (v := (.slice (some ⟨S0, 0, none⟩) e0.length m0)) zq15_ (Kd.R_typed j0.out) (by decide) hg) ((by rw [hw]; exact below_set (HB.out) (Nat.le_trans HL.out aJ0.out) : Below w0.heap.size w0 r7)) (KeepBut.trans zq6f_ (KeepBut.of_grown hg g) (Kd.R_base2 j0.out)); clear p0 j0 j1 HB HK; obtain ⟨p0, j0, j1, HB, HK⟩ := n_; clear hg hw aF_))
     go_ret
     exact ⟨_, zq59_, zq14_, zq7a_, zq5f_, zq6f_⟩
    ·rw [if_neg v1] at H; have s7 : (e4 == 2) = false := beq_eq_false_iff_ne.mpr v1; have s8 : (e4 != 2) = true := bne_iff_ne.mpr v1; by_cases v2 : e4 = 3
     ·rw [if_pos v2] at H; have s9 : (e4 == 3) = true := beq_iff_eq.mpr v2; have s10 : (e4 != 3) = false := bne_eq_false_iff_eq.mpr v2; clear v2; have H' := Aside0.mk H; clear H
      go_enter Try.func59, Try.ntmps59
      go_wp2_with (first | ((with_reducible refine gate_callee (f := 92) rfl ?_); refine gl_ 6 Try.func92 #[.pointer (some ⟨g, 0, none⟩)] ?_; (with_reducible refine (spec_l2Prog.calls k g C0 C1 e0 e1 w0 _ ?_ ?_ A2.out).mono ?_); exact zq7a_; exact zq5f_; rintro e r0 ⟨X0, rfl, E0, hi, hb, hk⟩; refine ⟨_, rfl, ?_⟩; have n_ := A4_ (Kd.R_lower E0 (keep_size (w := w) (g := g) (row := none) zq6f_)) (KeepBut.trans zq6f_ hk (.inl rfl)) (hb) (hi); clear HK HB p0; obtain ⟨j0, HK, HB, p0⟩ := n_; (try clear hb); (try clear hk); (try clear hi); (try clear E0); obtain ⟨o0, m0, D0⟩ := Kd.R_slice j0.out; subst D0) | ((with_reducible refine gate_callee (f := 91) rfl ?_); refine gl_ 14 Try.func91 #[.pointer (some ⟨g, 0, none⟩), .int .i64 (e0.length : Int)] ?_; (with_reducible refine (spec_l15Rd_pick.calls k g C0 e1 (e0.length : Int) e2 e3 w0 _ ?_ ?_ A6.out).mono ?_); exact zq7a_; exact zq5f_; rintro e r3 ⟨rfl, hi, hb, hk⟩; refine ⟨_, rfl, ?_⟩; have n_ := A4_ (Kd.R_mono (Kd.R_keep (IsS110.apart (show IsS110 w0 _ g C0 e1 from by repeat (first | (with_reducible first | exact p0.out | apply IsS110.alloc | apply IsS110.drewN | apply IsS110.drew | apply IsS110.set_1) | exact p0.out)) zq14_ (by decide)) hk (fun _ h => h.2)) (fun _ h => h.1)) (KeepBut.trans zq6f_ hk (.inl rfl)) (hb) (hi); clear j0 HK HB p0; obtain ⟨j0, HK, HB, p0⟩ := n_; (try clear hb); (try clear hk); (try clear hi)) | ((with_reducible refine gate_callee (f := 91) rfl ?_); refine gl_ 16 Try.func91 #[.pointer (some ⟨g, 0, none⟩), .int .i64 40] ?_; (with_reducible refine (spec_l15Rd_pick.calls k g C0 e3 40 e4 e5 w0 _ ?_ ?_ A7.out).mono ?_); exact zq7a_; exact zq5f_; rintro e r4 ⟨rfl, hi, hb, hk⟩; refine ⟨_, rfl, ?_⟩; have n_ := A4_ (Kd.R_mono (Kd.R_keep (IsS110.apart (show IsS110 w0 _ g C0 e3 from by repeat (first | (with_reducible first | exact p0.out | apply IsS110.alloc | apply IsS110.drewN | apply IsS110.drew | apply IsS110.set_1) | exact p0.out)) zq14_ (by decide)) hk (fun _ h => h.2)) (fun _ h => h.1)) (KeepBut.trans zq6f_ hk (.inl rfl)) (hb) (hi); clear j0 HK HB p0; obtain ⟨j0, HK, HB, p0⟩ := n_; (try clear hb); (try clear hk); (try clear hi)))
      go_loopg [3] k (fun kq v3 w' => ∃ (a0 : List (S34)), Aside0 (spec_l2Bent.l0 kq a0 e2 C0 e5 = some (r1, r2)) ∧ Aside0 (kq ≤ k) ∧ Aside0 (Kd.R k34 34 w' w.heap.size (fun _ => True) v3 a0) ∧ Aside0 (IsS110 w0 w' g C0 e5) ∧ Aside0 (KeepBut w w' g none) ∧ Aside0 (Below w0.heap.size w0 w'))
      case atStart => exact ⟨(e0), H', ⟨Nat.le_refl _⟩, ⟨zq14_⟩, ⟨zq7a_⟩, ⟨zq6f_⟩, ⟨zq5f_⟩⟩
      case round =>
       clear H'
       try clear c1
       try clear p1
       try clear q1
       try clear hx1
       try clear hf1
       try clear c2
       try clear p2
       try clear q2
       try clear hx2
       try clear hf2
       try clear c3
       try clear s0
       try clear s1
       try clear s2
       try clear hx3
       try clear hf3
       try clear c4
       try clear p4
       try clear q4
       try clear hx4
       try clear hf4
       try clear c5
       try clear hx5
       try clear hf5
       try clear c8
       try clear s3
       try clear s4
       try clear c9
       try clear c10
       try clear s11
       try clear c11
       try clear s12
       try clear c12
       try clear u0
       try clear t0
       try clear hx12
       try clear hf12
       try clear c21
       try clear hx21
       try clear hf21
       try clear v0
       try clear s5
       try clear s6
       try clear c25
       try clear s13
       try clear c26
       try clear s14
       try clear c27
       try clear u1
       try clear t1
       try clear hx27
       try clear hf27
       try clear c36
       try clear hx36
       try clear hf36
       try clear v1
       try clear s7
       try clear s8
       try clear c40
       try clear s15
       try clear c41
       try clear s16
       try clear c42
       try clear u2
       try clear t2
       try clear hx42
       try clear hf42
       try clear c51
       try clear hx51
       try clear hf51
       try clear v2
       try clear s9
       try clear s10
       try clear q0
       try clear q3
       try clear q5
       try clear q6
       try clear q7
       try clear q8
       try clear q9
       try clear q10
       try clear q11
       try clear q12
       try clear q13
       try clear q14
       try clear q15
       try clear q16
       try clear q17
       try clear u0
       try clear u1
       try clear u2
       try clear t0
       try clear t1
       try clear t2
       obtain ⟨a0, HA, Z0, k0, p0, HK, HB⟩ := hrel
       cases gk with
       | zero => exact absurd HA.out (by simp [spec_l2Bent.l0])
       | succ k1 =>
        have H := HA.out; clear HA; simp only [spec_l2Bent.l0] at H; by_cases v4 : (a0.length : Int) < 11
        ·rw [if_pos v4] at H; have s17 : decide ((a0.length : Int) < 11) = true := decide_eq_true v4; have s18 : decide (a0.length < 11) = true := decide_eq_true (by omega); clear v4; replace H := ifd2_ H; obtain ⟨s19, s20, H⟩ := H; replace H := ifp_ H; obtain ⟨v5, H⟩ := H; have bg0 := Aside0.mk v5; clear v5; obtain ⟨K0, M0⟩ : ∃ y_ : List (S34), y_ = (a0 ++ [(⟨(rd_T34 a0 e2).f0, (rd_T34 a0 e2).f1, (rd_T34 a0 e2).f2, (rd_T34 a0 e2).f3⟩ : S34)]) := ⟨_, rfl⟩; replace H : (spec_l2Bent.l0 k1 K0 e2 C0 e5) = some (r1, r2) := by first | (rw [M0]; with_reducible exact H) | (have T0 := (Option.bind_some _ _).symm.trans H; rw [M0]; with_reducible exact T0) | (have T0 := (Option.bind_some _ _).symm.trans H; with_reducible exact T0) | with_reducible exact H | (rw [M0]; exact H) | exact H
         have ad0 := Aside0.mk M0; clear M0; have H' := Aside0.mk H; clear H; obtain ⟨o1, m1, D1⟩ := Kd.R_slice k0.out; subst D1; have u3 : 0 ≤ (e2 : Int) := of_decide_eq_true zq55_; have t3 : e2 < (a0.length : Int) := of_decide_eq_true zq55_; obtain ⟨F0, Q0, q18, q19, q20, q21⟩ := at_T34 (Kd.R_reads' k0.out).2.2 e2 u3 t3; cases Q0; replace u3 := eq_true u3; replace t3 := eq_true t3
         go_wp2_with (first | ((with_reducible refine gate_builtin (b := .append) (xs := #[.tmp 49, .tmp 54]) rfl ?_); at_builtin; refine Kd.R_append k34 w.heap.size rfl (.tmp 49) (.tmp 54) 24 34 (.agg #[(.int .i64 0), (.int .i64 0), (.int .i64 0), (.int .i64 0)]) 32 rfl Try.underlying24 info34 rfl (by decide) (by omega) (.slice (some F0) a0.length m1) a0 (⟨(rd_T34 a0 e2).f0, (rd_T34 a0 e2).f1, (rd_T34 a0 e2).f2, (rd_T34 a0 e2).f3⟩ : S34) [.int .i64 ((rd_T34 a0 e2).f0), .int .i64 ((rd_T34 a0 e2).f1), .int .i64 ((rd_T34 a0 e2).f2), .int .i64 ((rd_T34 a0 e2).f3)] (fun _ => True) (fun _ => False) rfl rfl ?aP (fun _ hk => hk.elim) ?aF ?aO (Below.refl _ _) ?aS ?aL ?_; (case aP => exact k34_mkM _ _ _ (⟨(rd_T34 a0 e2).f0, (rd_T34 a0 e2).f1, (rd_T34 a0 e2).f2, (rd_T34 a0 e2).f3⟩ : S34)); (case aF => exact (fun _ _ => trivial)); (case aO => exact zq1f_); (case aS => exact (keep_size (w := w) (g := g) (row := none) zq6f_)); (case aL => have := bg0.out; omega); intro X1 r5 ho hb hg bf; rw [← ad0.out] at ho; have n_ := A4_ (IsS110.grown zq7a_ hg (IsS110.own_ne p0.out k0.out (by decide))) (below_weaken zq5f_ HL.out hb) (KeepBut.trans zq6f_ (KeepBut.of_grown hg g) (Kd.R_base2 k0.out)) (ho); clear p0 HB HK k0; obtain ⟨p0, HB, HK, j1⟩ := n_; clear ho hb hg bf))
         go_roundg k1
         case measure => have := Z0.out; omega
         case rel => exact ⟨(K0), H', ⟨by have := Z0.out; omega⟩, ⟨zq15_⟩, ⟨zq7a_⟩, ⟨zq6f_⟩, ⟨zq5f_⟩⟩
        ·rw [if_neg v4] at H; have s17 : decide ((a0.length : Int) < 11) = false := decide_eq_false v4; have s18 : decide (a0.length < 11) = false := decide_eq_false (by omega); clear v4; simp only [Option.some.injEq, Prod.mk.injEq] at H; obtain ⟨rfl, rfl⟩ := H; obtain ⟨o1, m1, D1⟩ := Kd.R_slice k0.out; subst D1
         go_wp2
         go_ret
         exact ⟨_, zq59_, zq1f_, zq7a_, zq5f_, zq6f_⟩
     ·rw [if_neg v2] at H; have s9 : (e4 == 3) = false := beq_eq_false_iff_ne.mpr v2; have s10 : (e4 != 3) = true := bne_iff_ne.mpr v2; simp only [Option.some.injEq, Prod.mk.injEq] at H; obtain ⟨rfl, rfl⟩ := H
      go_enter Try.func59, Try.ntmps59
      go_wp2_with (first | ((with_reducible refine gate_callee (f := 92) rfl ?_); refine gl_ 6 Try.func92 #[.pointer (some ⟨g, 0, none⟩)] ?_; (with_reducible refine (spec_l2Prog.calls k g C0 C1 e0 e1 w0 _ ?_ ?_ A2.out).mono ?_); exact zq7a_; exact zq5f_; rintro e r0 ⟨X0, rfl, E0, hi, hb, hk⟩; refine ⟨_, rfl, ?_⟩; have n_ := A4_ (Kd.R_lower E0 (keep_size (w := w) (g := g) (row := none) zq6f_)) (KeepBut.trans zq6f_ hk (.inl rfl)) (hb) (hi); clear HK HB p0; obtain ⟨j0, HK, HB, p0⟩ := n_; (try clear hb); (try clear hk); (try clear hi); (try clear E0); obtain ⟨o0, m0, D0⟩ := Kd.R_slice j0.out; subst D0) | ((with_reducible refine gate_callee (f := 91) rfl ?_); refine gl_ 14 Try.func91 #[.pointer (some ⟨g, 0, none⟩), .int .i64 (e0.length : Int)] ?_; (with_reducible refine (spec_l15Rd_pick.calls k g C0 e1 (e0.length : Int) e2 e3 w0 _ ?_ ?_ A6.out).mono ?_); exact zq7a_; exact zq5f_; rintro e r3 ⟨rfl, hi, hb, hk⟩; refine ⟨_, rfl, ?_⟩; have n_ := A4_ (Kd.R_mono (Kd.R_keep (IsS110.apart (show IsS110 w0 _ g C0 e1 from by repeat (first | (with_reducible first | exact p0.out | apply IsS110.alloc | apply IsS110.drewN | apply IsS110.drew | apply IsS110.set_1) | exact p0.out)) zq14_ (by decide)) hk (fun _ h => h.2)) (fun _ h => h.1)) (KeepBut.trans zq6f_ hk (.inl rfl)) (hb) (hi); clear j0 HK HB p0; obtain ⟨j0, HK, HB, p0⟩ := n_; (try clear hb); (try clear hk); (try clear hi)) | ((with_reducible refine gate_callee (f := 91) rfl ?_); refine gl_ 16 Try.func91 #[.pointer (some ⟨g, 0, none⟩), .int .i64 40] ?_; (with_reducible refine (spec_l15Rd_pick.calls k g C0 e3 40 e4 e5 w0 _ ?_ ?_ A7.out).mono ?_); exact zq7a_; exact zq5f_; rintro e r4 ⟨rfl, hi, hb, hk⟩; refine ⟨_, rfl, ?_⟩; have n_ := A4_ (Kd.R_mono (Kd.R_keep (IsS110.apart (show IsS110 w0 _ g C0 e3 from by repeat (first | (with_reducible first | exact p0.out | apply IsS110.alloc | apply IsS110.drewN | apply IsS110.drew | apply IsS110.set_1) | exact p0.out)) zq14_ (by decide)) hk (fun _ h => h.2)) (fun _ h => h.1)) (KeepBut.trans zq6f_ hk (.inl rfl)) (hb) (hi); clear j0 HK HB p0; obtain ⟨j0, HK, HB, p0⟩ := n_; (try clear hb); (try clear hk); (try clear hi)))
      go_ret
      exact ⟨_, zq59_, zq14_, zq7a_, zq5f_, zq6f_⟩

/-! ### spec_DrawExecRun: function 12 -/
def spec_DrawExecRun.f (k : Nat) (l0 : List Int) : Option ((List (S46)) × (List (S34))) := (spec_l15Open.f l0).bind fun bt223 => ((spec_l1Boxes.f k bt223.1 bt223.2).bind fun bt226 => ((spec_l2Bent.f k bt223.1 bt226.2).bind fun bt230 => (some (bt226.1, bt230.1))))
theorem spec_DrawExecRun.mono : ∀ a0 k, LeO (spec_DrawExecRun.f k a0) (spec_DrawExecRun.f (k + 1) a0) := by
 intro a0 k
 unfold spec_DrawExecRun.f
 repeat' first
   | (with_reducible exact spec_l1Boxes.mono _ _ _)
   | (with_reducible exact spec_l2Bent.mono _ _ _)
   | (with_reducible exact LeO.refl _)
   | (with_reducible exact LeO.none _)
   | (with_reducible refine LeO.ite ?_ ?_)
   | (with_reducible refine LeO.bind ?_ (fun _ => ?_))
   | exact spec_l1Boxes.mono _ _ _
   | exact spec_l2Bent.mono _ _ _
   | exact LeO.none _
   | refine LeO.ite ?_ ?_
   | refine LeO.bind ?_ (fun _ => ?_)
set_option maxHeartbeats 8000000 in
set_option maxRecDepth 100000 in
theorem spec_DrawExecRun.calls (k : Nat) (A0 : Option Addr) (c0 : Nat) (l0 : List Int) (r1 : List (S46)) (r2 : List (S34)) (w : World) (Y0 : Kd.C (Kd.int .u8) w A0 l0.length l0) (ac0 : l0.length ≤ c0) (h : spec_DrawExecRun.f k l0 = some (r1, r2)) :
  Calls Try.prog 12 #[.slice A0 l0.length c0] w fun e w' => ∃ v0_ v1_ : Value, e = .returned (.tuple #[v0_, v1_]) ∧ Kd.R k46 46 w' w.heap.size (fun _ => True) v0_ r1 ∧ Kd.R k34 34 w' w.heap.size (fun _ => True) v1_ r2 ∧ Below w.heap.size w w' := by
 have V0 := Aside0.mk Y0; have ae0 := Aside0.mk ac0; clear Y0 ac0; have HB := Aside0.mk (Below.refl w.heap.size w); have H : ((spec_l15Open.f l0).bind fun L0 => ((spec_l1Boxes.f k L0.1 L0.2).bind fun L1 => ((spec_l2Bent.f k L0.1 L1.2).bind fun L2 => (some (L1.1, L2.1))))) = some (r1, r2) := h; clear h; replace H := Option.bind_eq_some_iff.mp H; obtain ⟨⟨e0, e1⟩, B0, H⟩ := H; (try dsimp only at H); have A2 := Aside0.mk B0; clear B0; replace H := Option.bind_eq_some_iff.mp H; obtain ⟨⟨e2, e3⟩, B1, H⟩ := H; (try dsimp only at H); have A3 := Aside0.mk B1; clear B1; replace H := Option.bind_eq_some_iff.mp H; obtain ⟨⟨e4, e5⟩, B2, H⟩ := H; (try dsimp only at H); have A4 := Aside0.mk B2; clear B2; simp only [Option.some.injEq, Prod.mk.injEq] at H; obtain ⟨rfl, rfl⟩ := H
 go_enter Try.func12, Try.ntmps12
 go_wp2_with (first | ((with_reducible refine gate_callee (f := 57) rfl ?_); refine gl_ 7 Try.func57 #[.slice A0 l0.length c0] ?_; (with_reducible refine (spec_l15Open.calls _ _ l0 e0 e1 w _ ?_ ?_ ?_ A2.out).mono ?_); exact zq6c_; exact V0.out; exact ae0.out; rintro e w5 ⟨bL0, rfl, hi, hb, bm0⟩; refine ⟨_, rfl, ?_⟩; have n_ := A2_ (hb) (hi); clear HB; obtain ⟨HB, p0⟩ := n_; (try clear hb); (try clear bm0); (try clear hi)) | ((with_reducible refine gate_callee (f := 58) rfl ?_); refine gl_ 9 Try.func58 #[.pointer (some ⟨bL0, 0, none⟩)] ?_; (with_reducible refine (spec_l1Boxes.calls k bL0 e0 e1 e2 e3 w _ ?_ ?_ A3.out).mono ?_); exact zq7a_; exact zq5f_; rintro e w6 ⟨X0, rfl, E0, hi, hb, hk⟩; refine ⟨_, rfl, ?_⟩; have n_ := A3_ (Kd.R_lower E0 (below_size zq5f_)) (hb) (hi); clear HB p0; obtain ⟨j0, HB, p0⟩ := n_; (try clear hb); (try clear hi); (try clear E0)) | ((with_reducible refine gate_callee (f := 59) rfl ?_); refine gl_ 12 Try.func59 #[.pointer (some ⟨bL0, 0, none⟩)] ?_; (with_reducible refine (spec_l2Bent.calls k bL0 e0 e3 e4 e5 w _ ?_ ?_ A4.out).mono ?_); exact zq7a_; exact zq5f_; rintro e w7 ⟨X1, rfl, E0, hi, hb, hk⟩; refine ⟨_, rfl, ?_⟩; have n_ := A4_ (Kd.R_mono (Kd.R_keep (IsS110.apart (show IsS110 w _ bL0 e0 e3 from by repeat (first | (with_reducible first | exact p0.out | apply IsS110.alloc | apply IsS110.drewN | apply IsS110.drew | apply IsS110.set_1) | exact p0.out)) zq14_ (by decide)) hk (fun _ h => h.2)) (fun _ h => h.1)) (Kd.R_lower E0 (below_size zq5f_)) (hb) (hi); clear j0 HB p0; obtain ⟨j0, j1, HB, p0⟩ := n_; (try clear hb); (try clear hk); (try clear hi); (try clear E0)))
 go_ret2
 exact ⟨_, _, zq59_, zq14_, zq15_, zq5f_⟩

/-! ### impl_in: function 64 -/
def impl_in.f (a0 : Int) (a1 : Int) (a2 : Int) : Option (Bool) := if a0 ≥ a1 then (some (decide (a0 ≤ a2))) else (some false)
set_option maxHeartbeats 8000000 in
set_option maxRecDepth 100000 in
theorem impl_in.calls (a0 : Int) (a1 : Int) (a2 : Int) (r : Bool) (w : World) (h : impl_in.f a0 a1 a2 = some r) :
  Calls Try.prog 64 #[.int .i64 a0, .int .i64 a1, .int .i64 a2] w fun e w' => e = .returned (.bool r) ∧ Drawn0 w w' := by
 have H : (if a0 ≥ a1 then (some (decide (a0 ≤ a2))) else (some false)) = some r := h; clear h; replace H := ifc_ H
 rcases H with ⟨c4b0, H⟩ | ⟨c4b0, H⟩
 ·change decide (a1 ≤ a0) = true at c4b0; obtain rfl := Option.some.inj H
  go_enter Try.func64, Try.ntmps64
  go_wp2
  go_ret
  exact ⟨zq5a_, zq8d_⟩
 ·change decide (a1 ≤ a0) = false at c4b0; obtain rfl := Option.some.inj H
  go_enter Try.func64, Try.ntmps64
  go_wp2
  go_ret
  exact ⟨zq5a_, zq8d_⟩

/-! ### impl_BoxOk: function 25 -/
def impl_BoxOk.l0 : Nat → List (S46) → List (S46) → Int → Int → Option (Bool)
 | 0, _, _, _, _ => none
 | k + 1, x0, x5, x6, x7 => if x7 < x6 then (if 0 ≤ x7 then (if x7 < (x5.length : Int) then ((impl_in.f ((rd_T46 x5 x7).f0) 0 1000000).bind fun t236 => (if t236 = true then ((impl_in.f ((rd_T46 x5 x7).f1) (-1000000) 1000000).bind fun t237 => (if t237 = true then (impl_BoxOk.l0 k x0 x5 x6 (wrap64 (x7 + 1))) else (some false))) else (some false))) else (none)) else (none)) else (some ((x0.length : Int) == 4))
def impl_BoxOk.f (k : Nat) (l0 : List (S46)) : Option (Bool) := impl_BoxOk.l0 k l0 l0 (l0.length : Int) 0
theorem impl_BoxOk.mono_l : ∀ k, (∀ y0 y1 y2 y3, LeO (impl_BoxOk.l0 k y0 y1 y2 y3) (impl_BoxOk.l0 (k + 1) y0 y1 y2 y3))
 | 0 => fun _ _ _ _ r h => by simp [impl_BoxOk.l0] at h
 | k + 1 => by
  have H0 := impl_BoxOk.mono_l k
  ·intro y0 y1 y2 y3
   unfold impl_BoxOk.l0
   repeat' first
   | (with_reducible exact H0 _ _ _ _)
   | (with_reducible exact LeO.refl _)
   | (with_reducible exact LeO.none _)
   | (with_reducible refine LeO.ite ?_ ?_)
   | (with_reducible refine LeO.bind ?_ (fun _ => ?_))
   | exact H0 _ _ _ _
   | exact LeO.none _
   | refine LeO.ite ?_ ?_
   | refine LeO.bind ?_ (fun _ => ?_)
theorem impl_BoxOk.mono : ∀ a0 k, LeO (impl_BoxOk.f k a0) (impl_BoxOk.f (k + 1) a0) := by
 intro a0 k
 have H0 := impl_BoxOk.mono_l k
 unfold impl_BoxOk.f
 repeat' first
   | (with_reducible exact H0 _ _ _ _)
   | (with_reducible exact LeO.refl _)
   | (with_reducible exact LeO.none _)
   | (with_reducible refine LeO.ite ?_ ?_)
   | (with_reducible refine LeO.bind ?_ (fun _ => ?_))
   | exact H0 _ _ _ _
   | exact LeO.none _
   | refine LeO.ite ?_ ?_
   | refine LeO.bind ?_ (fun _ => ?_)
set_option maxHeartbeats 8000000 in
set_option maxRecDepth 100000 in
theorem impl_BoxOk.calls (k : Nat) (A0 : Option Addr) (c0 : Nat) (l0 : List (S46)) (r : Bool) (w : World) (Y0 : Kd.C k46 w A0 l0.length l0) (ac0 : l0.length ≤ c0) (h : impl_BoxOk.f k l0 = some r) :
  Calls Try.prog 25 #[.slice A0 l0.length c0] w fun e w' => e = .returned (.bool r) ∧ Below w.heap.size w w' := by
 have ap0 := Try.underlying46; have V0 := Aside0.mk Y0; have ae0 := Aside0.mk ac0; clear Y0 ac0; have HB := Aside0.mk (Below.refl w.heap.size w); have H : (impl_BoxOk.l0 k l0 l0 (l0.length : Int) 0) = some r := h; clear h; have H' := Aside0.mk H; clear H
 go_enter Try.func25, Try.ntmps25
 go_wp2
 go_loopg [7] k (fun kq v7 w' => ∃ (a0 : Int), v7 = .int .i64 a0 ∧ Aside0 (impl_BoxOk.l0 kq l0 l0 (l0.length : Int) a0 = some r) ∧ Aside0 (kq ≤ k) ∧ Aside0 (Below w.heap.size w w'))
 case atStart => exact ⟨(0), zq5a_, H', ⟨Nat.le_refl _⟩, ⟨zq6c_⟩⟩
 case round =>
  clear H'; obtain ⟨a0, rfl, HA, Z0, HB⟩ := hrel
  cases gk with
  | zero => exact absurd HA.out (by simp [impl_BoxOk.l0])
  | succ k1 =>
   have H := HA.out; clear HA; simp only [impl_BoxOk.l0] at H; replace H := ifc_ H
   rcases H with ⟨c2b0, H⟩ | ⟨c2b0, H⟩
   ·replace H := ifd2_ H; obtain ⟨s0, s1, H⟩ := H; replace H := bs_ H; obtain ⟨e0, A5, H⟩ := H; (try dsimp only at H); replace H := ifB_ H
    rcases H with ⟨rfl, H⟩ | ⟨rfl, H⟩
    ·replace H := bs_ H; obtain ⟨e1, A7, H⟩ := H; (try dsimp only at H); replace H := ifB_ H
     rcases H with ⟨rfl, H⟩ | ⟨rfl, H⟩
     ·have H' := Aside0.mk H; clear H; have u0 : 0 ≤ (a0 : Int) := of_decide_eq_true zq55_; have t0 : a0 < (l0.length : Int) := of_decide_eq_true zq55_; obtain ⟨F0, Q0, q0, q1⟩ := at_T46 V0.out a0 u0 t0; cases Q0; replace q0 := pb_ HB.out q0; replace q1 := pb_ HB.out q1; replace u0 := eq_true u0; replace t0 := eq_true t0
      go_wp2_with (first | ((with_reducible refine gate_dst (N := 4) rfl ?_); refine bxe_ (N := 4) (cs := #[.int .i64 0, .int .i64 0]) (t := 46) ?_; intro c1 hg w9 y hb; have n_ := A4_ (below_step zq6c_ hb) (y) ((zqa8_ : w.heap.size ≤ c1)) ((zqa8_ : w.heap.size ≤ c1)); clear HB; obtain ⟨HB, b0, x0, l1⟩ := n_; clear hb y hg; obtain ⟨h0, h1, i0, i1⟩ := bz2_ b0.out) | ((with_reducible refine gate_callee (f := 64) rfl ?_); refine gl_ 13 Try.func64 #[.int .i64 ((rd_T46 l0 a0).f0), .int .i64 0, .int .i64 1000000] ?_; (with_reducible refine (impl_in.calls ((rd_T46 l0 a0).f0) 0 1000000 true _ A5.out).mono ?_); rintro e w' ⟨rfl, ⟨nd, rfl⟩⟩; refine ⟨_, rfl, ?_⟩) | (go_at_call 64; (with_reducible refine (impl_in.calls ((rd_T46 l0 a0).f1) (-1000000) 1000000 true _ A7.out).mono ?_); rintro e w' ⟨rfl, ⟨nd, rfl⟩⟩; (try clear A7)))
      go_roundg k1
      case measure => have := Z0.out; omega
      case rel => exact ⟨(wrap64 (a0 + 1)), zq5a_, H', ⟨by have := Z0.out; omega⟩, ⟨zq67_⟩⟩
     ·obtain rfl := Option.some.inj H; have u0 : 0 ≤ (a0 : Int) := of_decide_eq_true zq55_; have t0 : a0 < (l0.length : Int) := of_decide_eq_true zq55_; obtain ⟨F0, Q0, q0, q1⟩ := at_T46 V0.out a0 u0 t0; cases Q0; replace q0 := pb_ HB.out q0; replace q1 := pb_ HB.out q1; replace u0 := eq_true u0; replace t0 := eq_true t0
      go_wp2_with (first | ((with_reducible refine gate_dst (N := 4) rfl ?_); refine bxe_ (N := 4) (cs := #[.int .i64 0, .int .i64 0]) (t := 46) ?_; intro c1 hg r0 y hb; have n_ := A4_ (below_step zq6c_ hb) (y) ((zqa8_ : w.heap.size ≤ c1)) ((zqa8_ : w.heap.size ≤ c1)); clear HB; obtain ⟨HB, b0, x0, l1⟩ := n_; clear hb y hg; obtain ⟨h0, h1, i0, i1⟩ := bz2_ b0.out) | ((with_reducible refine gate_callee (f := 64) rfl ?_); refine gl_ 13 Try.func64 #[.int .i64 ((rd_T46 l0 a0).f0), .int .i64 0, .int .i64 1000000] ?_; (with_reducible refine (impl_in.calls ((rd_T46 l0 a0).f0) 0 1000000 true _ A5.out).mono ?_); rintro e w' ⟨rfl, ⟨nd, rfl⟩⟩; refine ⟨_, rfl, ?_⟩) | (go_at_call 64; (with_reducible refine (impl_in.calls ((rd_T46 l0 a0).f1) (-1000000) 1000000 false _ A7.out).mono ?_); rintro e w' ⟨rfl, ⟨nd, rfl⟩⟩; (try clear A7)))
      go_ret
      exact ⟨zq59_, zq67_⟩
    ·obtain rfl := Option.some.inj H; have u0 : 0 ≤ (a0 : Int) := of_decide_eq_true zq55_; have t0 : a0 < (l0.length : Int) := of_decide_eq_true zq55_; obtain ⟨F0, Q0, q0, q1⟩ := at_T46 V0.out a0 u0 t0; cases Q0; replace q0 := pb_ HB.out q0; replace q1 := pb_ HB.out q1; replace u0 := eq_true u0; replace t0 := eq_true t0
     go_wp2_with (first | ((with_reducible refine gate_dst (N := 4) rfl ?_); refine bxe_ (N := 4) (cs := #[.int .i64 0, .int .i64 0]) (t := 46) ?_; intro c1 hg r0 y hb; have n_ := A4_ (below_step zq6c_ hb) (y) ((zqa8_ : w.heap.size ≤ c1)) ((zqa8_ : w.heap.size ≤ c1)); clear HB; obtain ⟨HB, b0, x0, l1⟩ := n_; clear hb y hg; obtain ⟨h0, h1, i0, i1⟩ := bz2_ b0.out) | ((with_reducible refine gate_callee (f := 64) rfl ?_); refine gl_ 13 Try.func64 #[.int .i64 ((rd_T46 l0 a0).f0), .int .i64 0, .int .i64 1000000] ?_; (with_reducible refine (impl_in.calls ((rd_T46 l0 a0).f0) 0 1000000 false _ A5.out).mono ?_); rintro e w' ⟨rfl, ⟨nd, rfl⟩⟩; refine ⟨_, rfl, ?_⟩))
     go_ret
     exact ⟨zq59_, zq67_⟩
   ·obtain rfl := Option.some.inj H
    go_wp2
    go_ret
    exact ⟨zq59_, zq6c_⟩

/-! ### impl_insOk_1: function 108 -/
def impl_insOk_1.f (a0 : Int) : Option (Bool) := (impl_in.f a0 0 3).bind fun t238 => (some t238)
set_option maxHeartbeats 8000000 in
set_option maxRecDepth 100000 in
theorem impl_insOk_1.calls (a0 : Int) (r : Bool) (w : World) (h : impl_insOk_1.f a0 = some r) :
  Calls Try.prog 108 #[.int .i64 a0] w fun e w' => e = .returned (.bool r) ∧ Drawn0 w w' := by
 have H : ((impl_in.f a0 0 3).bind fun e0 => (some e0)) = some r := h; clear h; replace H := bs_ H; obtain ⟨e0, A2, H⟩ := H; (try dsimp only at H); obtain rfl := Option.some.inj H
 go_enter Try.func108, Try.ntmps108
 go_wp2_with (first | ((with_reducible refine gate_callee (f := 64) rfl ?_); refine gl_ 4 Try.func64 #[.int .i64 a0, .int .i64 0, .int .i64 3] ?_; (with_reducible refine (impl_in.calls a0 0 3 e0 _ A2.out).mono ?_); rintro e w' ⟨rfl, ⟨nd, rfl⟩⟩; refine ⟨_, rfl, ?_⟩))
 go_ret
 exact ⟨zq5a_, zq8d_⟩

/-! ### impl_insOk_2: function 109 -/
def impl_insOk_2.f (a0 : Int) : Option (Bool) := (impl_in.f a0 0 3).bind fun t239 => (some t239)
set_option maxHeartbeats 8000000 in
set_option maxRecDepth 100000 in
theorem impl_insOk_2.calls (a0 : Int) (r : Bool) (w : World) (h : impl_insOk_2.f a0 = some r) :
  Calls Try.prog 109 #[.int .i64 a0] w fun e w' => e = .returned (.bool r) ∧ Drawn0 w w' := by
 have H : ((impl_in.f a0 0 3).bind fun e0 => (some e0)) = some r := h; clear h; replace H := bs_ H; obtain ⟨e0, A2, H⟩ := H; (try dsimp only at H); obtain rfl := Option.some.inj H
 go_enter Try.func109, Try.ntmps109
 go_wp2_with (first | ((with_reducible refine gate_callee (f := 64) rfl ?_); refine gl_ 4 Try.func64 #[.int .i64 a0, .int .i64 0, .int .i64 3] ?_; (with_reducible refine (impl_in.calls a0 0 3 e0 _ A2.out).mono ?_); rintro e w' ⟨rfl, ⟨nd, rfl⟩⟩; refine ⟨_, rfl, ?_⟩))
 go_ret
 exact ⟨zq5a_, zq8d_⟩

end Go.Proofs.Ytgdafcakefnpdaa.PFnExec

-- Laid by this session's program out of the translation (gen.sh).
import Derived.Test.YtgdafcakefnpdaaPFnExactSerialOnex0
import Derived.Test.YtgdafcakefnpdaaPFnExactSerialOnex6
namespace Go.Proofs.Ytgdafcakefnpdaa.PFnExactSerialOne
open Go.RowKit Go.Proofs.YtgdafcakefnpdaaW.PrintWords Go.Proofs.YtgdafcakefnpdaaW.PrintLast Go.Proofs.YtgdafcakefnpdaaW.PrintMore
attribute [local go_sem] max2_int min2_int max_two min_two max_three min_three max_four min_four   -- for this text's walks alone
set_option linter.unusedVariables false
set_option linter.unusedSimpArgs false

/-! ### impl_ExecOk: function 20 -/
mutual
def impl_ExecOk.j0 : Nat → Bool → List (S48) → List (S36) → Int → Int → Option (Bool)
 | 0, _, _, _, _, _ => none
 | k + 1, x45, x306000, x306001, x306002, x306003 => if x45 = true then (some false) else (impl_ExecOk.l0 k x306000 (x306000.length : Int) 0 x306000 x306001 x306002 x306003 false false false false false false false false)
def impl_ExecOk.l0 : Nat → List (S48) → Int → Int → List (S48) → List (S36) → Int → Int → Bool → Bool → Bool → Bool → Bool → Bool → Bool → Bool → Option (Bool)
 | 0, _, _, _, _, _, _, _, _, _, _, _, _, _, _, _ => none
 | k + 1, x47, x48, x49, x306000, x306001, x306002, x306003, x309000, x309001, x309002, x309003, x310000, x310001, x310002, x310003 => if x49 < x48 then (if 0 ≤ x49 then (if x49 < (x47.length : Int) then ((impl_in.f ((rd_T48 x47 x49).f0) 0 3).bind fun t312 => (if t312 = true then (if 0 ≤ ((rd_T48 x47 x49).f0) then (if ((rd_T48 x47 x49).f0) < 4 then (if rdOf false [x309000, x309001, x309002, x309003] ((rd_T48 x47 x49).f0) = true then (some false) else ((impl_in.f ((rd_T48 x47 x49).f1) 0 1000000).bind fun t313 => (if t313 = true then (impl_ExecOk.l0 k x47 x48 (wrap64 (x49 + 1)) x306000 x306001 x306002 x306003 (ixB ((rd_T48 x47 x49).f0) 0 true x309000) (ixB ((rd_T48 x47 x49).f0) 1 true x309001) (ixB ((rd_T48 x47 x49).f0) 2 true x309002) (ixB ((rd_T48 x47 x49).f0) 3 true x309003) x310000 x310001 x310002 x310003) else (some false)))) else (none)) else (none)) else (some false))) else (none)) else (none)) else (impl_ExecOk.l1 k x306001 (x306001.length : Int) 0 x310000 x310001 x310002 x310003)
def impl_ExecOk.l1 : Nat → List (S36) → Int → Int → Bool → Bool → Bool → Bool → Option (Bool)
 | 0, _, _, _, _, _, _, _ => none
 | k + 1, x74, x75, x76, x310000, x310001, x310002, x310003 => if x76 < x75 then (if 0 ≤ x76 then (if x76 < (x74.length : Int) then ((impl_in.f ((rd_T36 x74 x76).f0) 0 3).bind fun t316 => (if t316 = true then (if 0 ≤ ((rd_T36 x74 x76).f0) then (if ((rd_T36 x74 x76).f0) < 4 then (if rdOf false [x310000, x310001, x310002, x310003] ((rd_T36 x74 x76).f0) = true then (some false) else ((impl_in.f ((rd_T36 x74 x76).f1) (-1000000) 1000000).bind fun t317 => (if t317 = true then (impl_ExecOk.l1 k x74 x75 (wrap64 (x76 + 1)) (ixB ((rd_T36 x74 x76).f0) 0 true x310000) (ixB ((rd_T36 x74 x76).f0) 1 true x310001) (ixB ((rd_T36 x74 x76).f0) 2 true x310002) (ixB ((rd_T36 x74 x76).f0) 3 true x310003)) else (some false)))) else (none)) else (none)) else (some false))) else (none)) else (none)) else (some true)
end
def impl_ExecOk.f (k : Nat) (l0_0 : List (S48)) (l0_1 : List (S36)) (a0_2 : Int) (a0_3 : Int) : Option (Bool) := (impl_in.f a0_3 0 3).bind fun t306 => (if t306 = true then ((impl_in.f a0_2 (-1000000) 1000000).bind fun t307 => (if t307 = true then (if a0_3 = 0 then (if a0_3 = 3 then (impl_ExecOk.j0 k (decide ((l0_0.length : Int) > 0)) l0_0 l0_1 a0_2 a0_3) else (impl_ExecOk.j0 k false l0_0 l0_1 a0_2 a0_3)) else (if a0_2 = 0 then (if (l0_1.length : Int) > 0 then (impl_ExecOk.j0 k true l0_0 l0_1 a0_2 a0_3) else (if a0_3 = 3 then (impl_ExecOk.j0 k (decide ((l0_0.length : Int) > 0)) l0_0 l0_1 a0_2 a0_3) else (impl_ExecOk.j0 k false l0_0 l0_1 a0_2 a0_3))) else (impl_ExecOk.j0 k true l0_0 l0_1 a0_2 a0_3))) else (impl_ExecOk.j0 k true l0_0 l0_1 a0_2 a0_3))) else (impl_ExecOk.j0 k true l0_0 l0_1 a0_2 a0_3))
theorem impl_ExecOk.mono_l : ∀ k, (∀ y0 y1 y2 y3 y4, LeO (impl_ExecOk.j0 k y0 y1 y2 y3 y4) (impl_ExecOk.j0 (k + 1) y0 y1 y2 y3 y4)) ∧ (∀ y0 y1 y2 y3 y4 y5 y6 y7 y8 y9 A0 A1 A2 A3 A4, LeO (impl_ExecOk.l0 k y0 y1 y2 y3 y4 y5 y6 y7 y8 y9 A0 A1 A2 A3 A4) (impl_ExecOk.l0 (k + 1) y0 y1 y2 y3 y4 y5 y6 y7 y8 y9 A0 A1 A2 A3 A4)) ∧ (∀ y0 y1 y2 y3 y4 y5 y6, LeO (impl_ExecOk.l1 k y0 y1 y2 y3 y4 y5 y6) (impl_ExecOk.l1 (k + 1) y0 y1 y2 y3 y4 y5 y6))
 | 0 => ⟨fun _ _ _ _ _ r h => by simp [impl_ExecOk.j0] at h, fun _ _ _ _ _ _ _ _ _ _ _ _ _ _ _ r h => by simp [impl_ExecOk.l0] at h, fun _ _ _ _ _ _ _ r h => by simp [impl_ExecOk.l1] at h⟩
 | k + 1 => by
  obtain ⟨E0, E1, E2⟩ := impl_ExecOk.mono_l k
  refine ⟨?_, ?_, ?_⟩
  ·intro y0 y1 y2 y3 y4
   unfold impl_ExecOk.j0
   repeat' first
   | (with_reducible exact E0 _ _ _ _ _)
   | (with_reducible exact E1 _ _ _ _ _ _ _ _ _ _ _ _ _ _ _)
   | (with_reducible exact E2 _ _ _ _ _ _ _)
   | (with_reducible exact LeO.refl _)
   | (with_reducible exact LeO.none _)
   | (with_reducible refine LeO.ite ?_ ?_)
   | (with_reducible refine LeO.bind ?_ (fun _ => ?_))
   | exact E0 _ _ _ _ _
   | exact E1 _ _ _ _ _ _ _ _ _ _ _ _ _ _ _
   | exact E2 _ _ _ _ _ _ _
   | exact LeO.none _
   | refine LeO.ite ?_ ?_
   | refine LeO.bind ?_ (fun _ => ?_)
  ·intro y0 y1 y2 y3 y4 y5 y6 y7 y8 y9 A0 A1 A2 A3 A4
   unfold impl_ExecOk.l0
   repeat' first
   | (with_reducible exact E0 _ _ _ _ _)
   | (with_reducible exact E1 _ _ _ _ _ _ _ _ _ _ _ _ _ _ _)
   | (with_reducible exact E2 _ _ _ _ _ _ _)
   | (with_reducible exact LeO.refl _)
   | (with_reducible exact LeO.none _)
   | (with_reducible refine LeO.ite ?_ ?_)
   | (with_reducible refine LeO.bind ?_ (fun _ => ?_))
   | exact E0 _ _ _ _ _
   | exact E1 _ _ _ _ _ _ _ _ _ _ _ _ _ _ _
   | exact E2 _ _ _ _ _ _ _
   | exact LeO.none _
   | refine LeO.ite ?_ ?_
   | refine LeO.bind ?_ (fun _ => ?_)
  ·intro y0 y1 y2 y3 y4 y5 y6
   unfold impl_ExecOk.l1
   repeat' first
   | (with_reducible exact E0 _ _ _ _ _)
   | (with_reducible exact E1 _ _ _ _ _ _ _ _ _ _ _ _ _ _ _)
   | (with_reducible exact E2 _ _ _ _ _ _ _)
   | (with_reducible exact LeO.refl _)
   | (with_reducible exact LeO.none _)
   | (with_reducible refine LeO.ite ?_ ?_)
   | (with_reducible refine LeO.bind ?_ (fun _ => ?_))
   | exact E0 _ _ _ _ _
   | exact E1 _ _ _ _ _ _ _ _ _ _ _ _ _ _ _
   | exact E2 _ _ _ _ _ _ _
   | exact LeO.none _
   | refine LeO.ite ?_ ?_
   | refine LeO.bind ?_ (fun _ => ?_)
theorem impl_ExecOk.mono : ∀ a0 a1 a2 a3 k, LeO (impl_ExecOk.f k a0 a1 a2 a3) (impl_ExecOk.f (k + 1) a0 a1 a2 a3) := by
 intro a0 a1 a2 a3 k
 obtain ⟨E0, E1, E2⟩ := impl_ExecOk.mono_l k
 unfold impl_ExecOk.f
 repeat' first
   | (with_reducible exact E0 _ _ _ _ _)
   | (with_reducible exact E1 _ _ _ _ _ _ _ _ _ _ _ _ _ _ _)
   | (with_reducible exact E2 _ _ _ _ _ _ _)
   | (with_reducible exact LeO.refl _)
   | (with_reducible exact LeO.none _)
   | (with_reducible refine LeO.ite ?_ ?_)
   | (with_reducible refine LeO.bind ?_ (fun _ => ?_))
   | exact E0 _ _ _ _ _
   | exact E1 _ _ _ _ _ _ _ _ _ _ _ _ _ _ _
   | exact E2 _ _ _ _ _ _ _
   | exact LeO.none _
   | refine LeO.ite ?_ ?_
   | refine LeO.bind ?_ (fun _ => ?_)
set_option maxHeartbeats 8000000 in
set_option maxRecDepth 100000 in
theorem impl_ExecOk.calls (k : Nat) (T0 : Option Addr) (P0 : Nat) (n0 : List (S48)) (T1 : Option Addr) (P1 : Nat) (n1 : List (S36)) (e0 : Int) (e1 : Int) (r : Bool) (w : World) (aA0 : Kd.C k48 w T0 n0.length n0) (aB0 : n0.length ≤ P0) (aA1 : Kd.C k36 w T1 n1.length n1) (aB1 : n1.length ≤ P1) (h : impl_ExecOk.f k n0 n1 e0 e1 = some r) :
  Calls Try.prog 20 #[.agg #[.slice T0 n0.length P0, .slice T1 n1.length P1, .int .i64 e0, .int .i64 e1]] w fun e w' => e = .returned (.bool r) ∧ Below w.heap.size w w' := by
 have ar0 := Try.underlying30; have ar1 := Try.underlying51; have ar2 := Try.underlying48; have ar3 := Try.underlying36; have aC0 := Aside0.mk aA0; have aZ0 := Aside0.mk aB0; clear aA0 aB0; have aC1 := Aside0.mk aA1; have aZ1 := Aside0.mk aB1; clear aA1 aB1; have HB := Aside0.mk (Below.refl w.heap.size w); have H : ((impl_in.f e1 0 3).bind fun i0 => (if i0 = true then ((impl_in.f e0 (-1000000) 1000000).bind fun i1 => (if i1 = true then (if e1 = 0 then (if e1 = 3 then (impl_ExecOk.j0 k (decide ((n0.length : Int) > 0)) n0 n1 e0 e1) else (impl_ExecOk.j0 k false n0 n1 e0 e1)) else (if e0 = 0 then (if (n1.length : Int) > 0 then (impl_ExecOk.j0 k true n0 n1 e0 e1) else (if e1 = 3 then (impl_ExecOk.j0 k (decide ((n0.length : Int) > 0)) n0 n1 e0 e1) else (impl_ExecOk.j0 k false n0 n1 e0 e1))) else (impl_ExecOk.j0 k true n0 n1 e0 e1))) else (impl_ExecOk.j0 k true n0 n1 e0 e1))) else (impl_ExecOk.j0 k true n0 n1 e0 e1))) = some r := h; clear h; have X0 := Aside0.mk H; clear H
 go_enter Try.func20, Try.ntmps20
 go_upto_region 1 with (first | ((with_reducible refine gate_dst (N := 1) rfl ?_); (try (refine gate_guard (by rfl) ?_; dsimp only)); refine bxe_ (N := 1) (cs := #[.slice T0 n0.length P0, .slice T1 n1.length P1, .int .i64 e0, .int .i64 e1]) (t := 30) ?_; intro c0 hg w3 x hb; have n_ := A4_ (below_step zq54_ hb) (x) ((zq81_ : w.heap.size ≤ c0)) ((zq81_ : w.heap.size ≤ c0)); clear HB; obtain ⟨HB, b0, z0, j1⟩ := n_; clear hb x hg))
 (try simp only [Act.put, List.setIfInBounds_toArray, List.set_cons_zero, List.set_cons_succ])
 go_cut [45] (fun af0 wc => ∃ (kq : Nat) (a0 : Bool), af0 = .bool a0 ∧ Aside0 (impl_ExecOk.j0 kq a0 n0 n1 e0 e1 = some r) ∧ Aside0 (kq ≤ k) ∧ Aside0 (wc.heap[c0]? = some (.cells #[(.slice T0 n0.length P0), (.slice T1 n1.length P1), .int .i64 e0, .int .i64 e1] 30 (0, 0))) ∧ Aside0 (Below w.heap.size w wc))
 case first =>
  have H := X0.out; clear X0; replace H := bs_ H; obtain ⟨i0, A4, H⟩ := H; (try dsimp only at H); replace H := ifB_ H
  rcases H with ⟨rfl, H⟩ | ⟨rfl, H⟩
  ·replace H := bs_ H; obtain ⟨i1, A6, H⟩ := H; (try dsimp only at H); replace H := ifB_ H
   rcases H with ⟨rfl, H⟩ | ⟨rfl, H⟩
   ·by_cases c8 : e1 = 0
    ·rw [if_pos c8] at H; have r0 : (e1 == 0) = true := beq_iff_eq.mpr c8; have r1 : (e1 != 0) = false := bne_eq_false_iff_eq.mpr c8; clear c8; (first | rw [r0] | (simp only [i64_w, i32_w]; rw [r0]) | skip); by_cases c9 : e1 = 3
     ·rw [if_pos c9] at H; have r2 : (e1 == 3) = true := beq_iff_eq.mpr c9; have r3 : (e1 != 3) = false := bne_eq_false_iff_eq.mpr c9; clear c9; have H' := Aside0.mk H; clear H; obtain ⟨g0, g1, g2, g3, h0, h1, h2, h3⟩ := bz4_ b0.out
      go_wp2_with (first | ((with_reducible refine gate_callee (f := 64) rfl ?_); refine gl_ 11 Try.func64 #[.int .i64 e1, .int .i64 0, .int .i64 3] ?_; (with_reducible refine (impl_in.calls e1 0 3 true _ A4.out).mono ?_); rintro e w' ⟨rfl, ⟨nd, rfl⟩⟩; refine ⟨_, rfl, ?_⟩) | (go_at_call 64; (with_reducible refine (impl_in.calls e0 (-1000000) 1000000 true _ A6.out).mono ?_); rintro e w' ⟨rfl, ⟨nd, rfl⟩⟩; (try clear A6)))
      go_meet
      case rel => exact ⟨_, (decide ((n0.length : Int) > 0)), zq45_, H', ⟨zq43_⟩, ⟨zq19_⟩, ⟨zq53_⟩⟩
     ·rw [if_neg c9] at H; have r2 : (e1 == 3) = false := beq_eq_false_iff_ne.mpr c9; have r3 : (e1 != 3) = true := bne_iff_ne.mpr c9; have H' := Aside0.mk H; clear H; obtain ⟨g0, g1, g2, g3, h0, h1, h2, h3⟩ := bz4_ b0.out
      go_wp2_with (first | ((with_reducible refine gate_callee (f := 64) rfl ?_); refine gl_ 11 Try.func64 #[.int .i64 e1, .int .i64 0, .int .i64 3] ?_; (with_reducible refine (impl_in.calls e1 0 3 true _ A4.out).mono ?_); rintro e w' ⟨rfl, ⟨nd, rfl⟩⟩; refine ⟨_, rfl, ?_⟩) | (go_at_call 64; (with_reducible refine (impl_in.calls e0 (-1000000) 1000000 true _ A6.out).mono ?_); rintro e w' ⟨rfl, ⟨nd, rfl⟩⟩; (try clear A6)))
      go_meet
      case rel => exact ⟨_, (false), zq45_, H', ⟨zq43_⟩, ⟨zq19_⟩, ⟨zq53_⟩⟩
    ·rw [if_neg c8] at H; have r0 : (e1 == 0) = false := beq_eq_false_iff_ne.mpr c8; have r1 : (e1 != 0) = true := bne_iff_ne.mpr c8; (first | rw [r0] | (simp only [i64_w, i32_w]; rw [r0]) | skip); by_cases u0 : e0 = 0
     ·rw [if_pos u0] at H; have r2 : (e0 == 0) = true := beq_iff_eq.mpr u0; have r3 : (e0 != 0) = false := bne_eq_false_iff_eq.mpr u0; clear u0; by_cases u1 : (n1.length : Int) > 0
      ·rw [if_pos u1] at H; have r4 : decide (0 < (n1.length : Int)) = true := decide_eq_true u1; have r5 : decide (0 < n1.length) = true := decide_eq_true (by omega); clear u1; have H' := Aside0.mk H; clear H; obtain ⟨g0, g1, g2, g3, h0, h1, h2, h3⟩ := bz4_ b0.out
       go_wp2_with (first | ((with_reducible refine gate_callee (f := 64) rfl ?_); refine gl_ 11 Try.func64 #[.int .i64 e1, .int .i64 0, .int .i64 3] ?_; (with_reducible refine (impl_in.calls e1 0 3 true _ A4.out).mono ?_); rintro e w' ⟨rfl, ⟨nd, rfl⟩⟩; refine ⟨_, rfl, ?_⟩) | (go_at_call 64; (with_reducible refine (impl_in.calls e0 (-1000000) 1000000 true _ A6.out).mono ?_); rintro e w' ⟨rfl, ⟨nd, rfl⟩⟩; (try clear A6)))
       go_meet
       case rel => exact ⟨_, (true), zq45_, H', ⟨zq43_⟩, ⟨zq19_⟩, ⟨zq53_⟩⟩
      ·rw [if_neg u1] at H; have r4 : decide (0 < (n1.length : Int)) = false := decide_eq_false u1; have r5 : decide (0 < n1.length) = false := decide_eq_false (by omega); clear u1; by_cases u2 : e1 = 3
       ·rw [if_pos u2] at H; have r6 : (e1 == 3) = true := beq_iff_eq.mpr u2; have r7 : (e1 != 3) = false := bne_eq_false_iff_eq.mpr u2; clear u2; have H' := Aside0.mk H; clear H; obtain ⟨g0, g1, g2, g3, h0, h1, h2, h3⟩ := bz4_ b0.out
        go_wp2_with (first | ((with_reducible refine gate_callee (f := 64) rfl ?_); refine gl_ 11 Try.func64 #[.int .i64 e1, .int .i64 0, .int .i64 3] ?_; (with_reducible refine (impl_in.calls e1 0 3 true _ A4.out).mono ?_); rintro e w' ⟨rfl, ⟨nd, rfl⟩⟩; refine ⟨_, rfl, ?_⟩) | (go_at_call 64; (with_reducible refine (impl_in.calls e0 (-1000000) 1000000 true _ A6.out).mono ?_); rintro e w' ⟨rfl, ⟨nd, rfl⟩⟩; (try clear A6)))
        go_meet
        case rel => exact ⟨_, (decide ((n0.length : Int) > 0)), zq45_, H', ⟨zq43_⟩, ⟨zq19_⟩, ⟨zq53_⟩⟩
       ·rw [if_neg u2] at H; have r6 : (e1 == 3) = false := beq_eq_false_iff_ne.mpr u2; have r7 : (e1 != 3) = true := bne_iff_ne.mpr u2; have H' := Aside0.mk H; clear H; obtain ⟨g0, g1, g2, g3, h0, h1, h2, h3⟩ := bz4_ b0.out
        go_wp2_with (first | ((with_reducible refine gate_callee (f := 64) rfl ?_); refine gl_ 11 Try.func64 #[.int .i64 e1, .int .i64 0, .int .i64 3] ?_; (with_reducible refine (impl_in.calls e1 0 3 true _ A4.out).mono ?_); rintro e w' ⟨rfl, ⟨nd, rfl⟩⟩; refine ⟨_, rfl, ?_⟩) | (go_at_call 64; (with_reducible refine (impl_in.calls e0 (-1000000) 1000000 true _ A6.out).mono ?_); rintro e w' ⟨rfl, ⟨nd, rfl⟩⟩; (try clear A6)))
        go_meet
        case rel => exact ⟨_, (false), zq45_, H', ⟨zq43_⟩, ⟨zq19_⟩, ⟨zq53_⟩⟩
     ·rw [if_neg u0] at H; have r2 : (e0 == 0) = false := beq_eq_false_iff_ne.mpr u0; have r3 : (e0 != 0) = true := bne_iff_ne.mpr u0; have H' := Aside0.mk H; clear H; obtain ⟨g0, g1, g2, g3, h0, h1, h2, h3⟩ := bz4_ b0.out
      go_wp2_with (first | ((with_reducible refine gate_callee (f := 64) rfl ?_); refine gl_ 11 Try.func64 #[.int .i64 e1, .int .i64 0, .int .i64 3] ?_; (with_reducible refine (impl_in.calls e1 0 3 true _ A4.out).mono ?_); rintro e w' ⟨rfl, ⟨nd, rfl⟩⟩; refine ⟨_, rfl, ?_⟩) | (go_at_call 64; (with_reducible refine (impl_in.calls e0 (-1000000) 1000000 true _ A6.out).mono ?_); rintro e w' ⟨rfl, ⟨nd, rfl⟩⟩; (try clear A6)))
      go_meet
      case rel => exact ⟨_, (true), zq45_, H', ⟨zq43_⟩, ⟨zq19_⟩, ⟨zq53_⟩⟩
   ·have H' := Aside0.mk H; clear H; obtain ⟨g0, g1, g2, g3, h0, h1, h2, h3⟩ := bz4_ b0.out
    go_wp2_with (first | ((with_reducible refine gate_callee (f := 64) rfl ?_); refine gl_ 11 Try.func64 #[.int .i64 e1, .int .i64 0, .int .i64 3] ?_; (with_reducible refine (impl_in.calls e1 0 3 true _ A4.out).mono ?_); rintro e w' ⟨rfl, ⟨nd, rfl⟩⟩; refine ⟨_, rfl, ?_⟩) | (go_at_call 64; (with_reducible refine (impl_in.calls e0 (-1000000) 1000000 false _ A6.out).mono ?_); rintro e w' ⟨rfl, ⟨nd, rfl⟩⟩; (try clear A6)))
    go_meet
    case rel => exact ⟨_, (true), zq45_, H', ⟨zq43_⟩, ⟨zq19_⟩, ⟨zq53_⟩⟩
  ·have H' := Aside0.mk H; clear H; obtain ⟨g0, g1, g2, g3, h0, h1, h2, h3⟩ := bz4_ b0.out
   go_wp2_with (first | ((with_reducible refine gate_callee (f := 64) rfl ?_); refine gl_ 11 Try.func64 #[.int .i64 e1, .int .i64 0, .int .i64 3] ?_; (with_reducible refine (impl_in.calls e1 0 3 false _ A4.out).mono ?_); rintro e w' ⟨rfl, ⟨nd, rfl⟩⟩; refine ⟨_, rfl, ?_⟩))
   go_meet
   case rel => exact ⟨_, (true), zq45_, H', ⟨zq43_⟩, ⟨zq19_⟩, ⟨zq53_⟩⟩
 case rest =>
  clear X0
  try clear c1
  try clear c2
  try clear p2
  try clear c5
  try clear c6
  try clear c7
  try clear c8
  try clear r0
  try clear r1
  try clear c9
  try clear r2
  try clear r3
  try clear u0
  try clear r4
  try clear r5
  try clear u1
  try clear r6
  try clear r7
  try clear u2
  try clear r8
  try clear r9
  try clear c20
  try clear g0 g1 g2 g3 h0 h1 h2 h3
  try clear g4 g5 g6 g7 h4 h5 h6 h7
  try clear g8 g9 g10 g11 h8 h9 h10 h11
  try clear g12 g13 g14 g15 h12 h13 h14 h15
  try clear g16 g17 g18 g19 h16 h17 h18 h19
  try clear g20 g21 g22 g23 h20 h21 h22 h23
  try clear g24 g25 g26 g27 h24 h25 h26 h27
  try clear g28 g29 g30 g31 h28 h29 h30 h31
  obtain ⟨kq, a0, rfl, HA, ap0, b0, HB⟩ := hcut
  cases kq with
  | zero => exact absurd HA.out (by simp [impl_ExecOk.j0])
  | succ kj1 =>
   have H := HA.out; clear HA; simp only [impl_ExecOk.j0] at H; replace H := ifB_ H
   rcases H with ⟨rfl, H⟩ | ⟨rfl, H⟩
   ·obtain rfl := Option.some.inj H
    go_wp2
    go_ret
    exact ⟨zq44_, zq53_⟩
   ·have H' := Aside0.mk H; clear H
    go_wp2_with (first | ((with_reducible refine gate_dst (N := 3) rfl ?_); (try (refine gate_guard (by rfl) ?_; dsimp only)); refine bxe_ (N := 3) (cs := #[.bool false, .bool false, .bool false, .bool false]) (t := 51) ?_; intro c10 hg q0 x hb; have n_ := A7_ (blk_below (g := c0) (o := .cells #[.slice T0 n0.length P0, .slice T1 n1.length P1, .int .i64 e0, .int .i64 e1] 30 (0, 0)) zq19_ hb) (below_step zq53_ hb) (x) ((zq80_ : w.heap.size ≤ c10)) ((zq80_ : w.heap.size ≤ c10)) ((zq99_ : c0 ≠ c10)) ((zq88_ : c10 ≠ c0)); clear b0 HB; obtain ⟨b0, HB, b1, z1, j2, f2, f3⟩ := n_; clear hb x hg) | ((with_reducible refine gate_dst (N := 4) rfl ?_); (try (refine gate_guard (by rfl) ?_; dsimp only)); refine bxe_ (N := 4) (cs := #[.bool false, .bool false, .bool false, .bool false]) (t := 51) ?_; intro c11 hg q1 x hb; have d0 := Aside0.mk (blk_below (g := c0) (o := .cells #[.slice T0 n0.length P0, .slice T1 n1.length P1, .int .i64 e0, .int .i64 e1] 30 (0, 0)) zq19_ hb); have d1 := Aside0.mk (blk_below (g := c10) (o := .cells #[.bool false, .bool false, .bool false, .bool false] 51 (0, 0)) zq1a_ hb); have d2 := Aside0.mk (below_step zq4f_ hb); have d3 := Aside0.mk (x); have d4 := Aside0.mk ((by rw [hg]; exact (below_size zq4f_) : w.heap.size ≤ c11)); have d5 := Aside0.mk ((by rw [hg]; exact (below_size zq4f_) : w.heap.size ≤ c11)); have d6 := Aside0.mk ((zq99_ : c0 ≠ c11)); have d7 := Aside0.mk ((zq88_ : c11 ≠ c0)); have d8 := Aside0.mk ((by rw [hg]; exact Nat.ne_of_lt (blk_lt (g := c10) (o := .cells #[.bool false, .bool false, .bool false, .bool false] 51 (0, 0)) zq1a_) : c10 ≠ c11)); have d9 := Aside0.mk ((by rw [hg]; exact Nat.ne_of_gt (blk_lt (g := c10) (o := .cells #[.bool false, .bool false, .bool false, .bool false] 51 (0, 0)) zq1a_) : c11 ≠ c10)); clear b0; clear b1; clear HB; have b0 := d0; have b1 := d1; have HB := d2; have b2 := d3; have z2 := d4; have j3 := d5; have f4 := d6; have f5 := d7; have f6 := d8; have f7 := d9; clear d0 d1 d2 d3 d4 d5 d6 d7 d8 d9; clear hb x hg; have J0 := f2.out; have K0 := f3.out; have J1 := f4.out; have K1 := f5.out; obtain ⟨g32, g33, g34, g35, h32, h33, h34, h35⟩ := bz4_ b0.out))
    go_loopg [49] kj1 (fun kq af1 w' => ∃ (a1 : Int) (a2 : Bool) (a3 : Bool) (a4 : Bool) (a5 : Bool), af1 = .int .i64 a1 ∧ Aside0 (impl_ExecOk.l0 kq n0 (n0.length : Int) a1 n0 n1 e0 e1 a2 a3 a4 a5 false false false false = some r) ∧ Aside0 (kq ≤ kj1) ∧ Aside0 (w'.heap[c0]? = some (.cells #[(.slice T0 n0.length P0), (.slice T1 n1.length P1), .int .i64 e0, .int .i64 e1] 30 (0, 0))) ∧ Aside0 (w'.heap[c10]? = some (.cells #[.bool a2, .bool a3, .bool a4, .bool a5] 51 (0, 0))) ∧ Aside0 (w'.heap[c11]? = some (.cells #[.bool false, .bool false, .bool false, .bool false] 51 (0, 0))) ∧ Aside0 (Below w.heap.size w w'))
    case atStart => exact ⟨(0), (false), (false), (false), (false), zq45_, H', ⟨Nat.le_refl _⟩, ⟨zq19_⟩, ⟨zq1a_⟩, ⟨zq1b_⟩, ⟨zq4e_⟩⟩
    case round =>
     clear H'
     try clear c1
     try clear c2
     try clear p2
     try clear c5
     try clear c6
     try clear c7
     try clear c8
     try clear r0
     try clear r1
     try clear c9
     try clear r2
     try clear r3
     try clear u0
     try clear r4
     try clear r5
     try clear u1
     try clear r6
     try clear r7
     try clear u2
     try clear r8
     try clear r9
     try clear c20
     try clear c21
     try clear c24
     try clear c25
     try clear g0 g1 g2 g3 h0 h1 h2 h3
     try clear g4 g5 g6 g7 h4 h5 h6 h7
     try clear g8 g9 g10 g11 h8 h9 h10 h11
     try clear g12 g13 g14 g15 h12 h13 h14 h15
     try clear g16 g17 g18 g19 h16 h17 h18 h19
     try clear g20 g21 g22 g23 h20 h21 h22 h23
     try clear g24 g25 g26 g27 h24 h25 h26 h27
     try clear g28 g29 g30 g31 h28 h29 h30 h31
     try clear g32 g33 g34 g35 h32 h33 h34 h35
     try clear p2
     obtain ⟨a1, a2, a3, a4, a5, rfl, HA, ae0, b0, b1, b2, HB⟩ := hrel
     cases gk with
     | zero => exact absurd HA.out (by simp [impl_ExecOk.l0])
     | succ k2 =>
      have H := HA.out; clear HA; simp only [impl_ExecOk.l0] at H; replace H := ifc_ H
      rcases H with ⟨c27b0, H⟩ | ⟨c27b0, H⟩
      ·replace H := ifd2_ H; obtain ⟨r10, r11, H⟩ := H; replace H := bs_ H; obtain ⟨i2, F0, H⟩ := H; (try dsimp only at H); replace H := ifB_ H
       rcases H with ⟨rfl, H⟩ | ⟨rfl, H⟩
       ·replace H := ifd2_ H; obtain ⟨r12, r13, H⟩ := H; obtain ⟨bE0, bm0⟩ : ∃ b_ : Bool, b_ = (rdOf false [a2, a3, a4, a5] ((rd_T48 n0 a1).f0)) := ⟨_, rfl⟩; replace H : (if bE0 = true then (some false) else ((impl_in.f ((rd_T48 n0 a1).f1) 0 1000000).bind fun i3 => (if i3 = true then (impl_ExecOk.l0 k2 n0 (n0.length : Int) (wrap64 (a1 + 1)) n0 n1 e0 e1 (ixB ((rd_T48 n0 a1).f0) 0 true a2) (ixB ((rd_T48 n0 a1).f0) 1 true a3) (ixB ((rd_T48 n0 a1).f0) 2 true a4) (ixB ((rd_T48 n0 a1).f0) 3 true a5) false false false false) else (some false)))) = some r := by rw [← bm0] at H; exact H
        have bg0 := Aside0.mk bm0; clear bm0; replace H := ifB_ H
        rcases H with ⟨rfl, H⟩ | ⟨rfl, H⟩
        ·obtain rfl := Option.some.inj H; have s0 : 0 ≤ (a1 : Int) := of_decide_eq_true zq40_; have t0 : a1 < (n0.length : Int) := of_decide_eq_true zq40_; obtain ⟨y0, N0, p0, p1⟩ := at_T48 aC0.out a1 s0 t0; cases N0; replace p0 := pb_ HB.out p0; replace p1 := pb_ HB.out p1; replace s0 := eq_true s0; replace t0 := eq_true t0
         go_wp2_with (first | ((with_reducible refine gate_dst (N := 6) rfl ?_); (try (refine gate_guard (by rfl) ?_; dsimp only)); refine bxe_ (N := 6) (cs := #[.int .i64 0, .int .i64 0]) (t := 48) ?_; intro c12 hg q2 x hb; have d0 := Aside0.mk (blk_below (g := c0) (o := .cells #[.slice (some y0) n0.length P0, .slice T1 n1.length P1, .int .i64 e0, .int .i64 e1] 30 (0, 0)) zq19_ hb); have d1 := Aside0.mk (blk_below (g := c10) (o := .cells #[.bool a2, .bool a3, .bool a4, .bool a5] 51 (0, 0)) zq1a_ hb); have d2 := Aside0.mk (blk_below (g := c11) (o := .cells #[.bool false, .bool false, .bool false, .bool false] 51 (0, 0)) zq1b_ hb); have d3 := Aside0.mk (below_step zq4e_ hb); have d4 := Aside0.mk (x); have d5 := Aside0.mk ((zq7e_ : w.heap.size ≤ c12)); have d6 := Aside0.mk ((zq7e_ : w.heap.size ≤ c12)); have d7 := Aside0.mk ((zq97_ : c0 ≠ c12)); have d8 := Aside0.mk ((zq86_ : c12 ≠ c0)); have d9 := Aside0.mk ((zq9d_ : c10 ≠ c12)); have d10 := Aside0.mk ((zq8c_ : c12 ≠ c10)); have d11 := Aside0.mk ((zq9f_ : c11 ≠ c12)); have d12 := Aside0.mk ((zq8e_ : c12 ≠ c11)); clear b0; clear b1; clear b2; clear HB; have b0 := d0; have b1 := d1; have b2 := d2; have HB := d3; have b3 := d4; have z3 := d5; have j4 := d6; have f8 := d7; have f9 := d8; have f10 := d9; have f11 := d10; have f12 := d11; have f13 := d12; clear d0 d1 d2 d3 d4 d5 d6 d7 d8 d9 d10 d11 d12; clear hb x hg; have J2 := f9.out; have K2 := f8.out; have J3 := f11.out; have K3 := f10.out; have J4 := f13.out; have K4 := f12.out; obtain ⟨g36, g37, h36, h37⟩ := bz2_ b3.out) | ((with_reducible refine gate_callee (f := 64) rfl ?_); refine gl_ 55 Try.func64 #[.int .i64 ((rd_T48 n0 a1).f0), .int .i64 0, .int .i64 3] ?_; (with_reducible refine (impl_in.calls ((rd_T48 n0 a1).f0) 0 3 true _ F0.out).mono ?_); rintro e w' ⟨rfl, ⟨nd, rfl⟩⟩; refine ⟨_, rfl, ?_⟩; have J5 := f3.out; have K5 := f2.out; have J6 := f6.out; have K6 := f7.out; have ac0 : 0 ≤ ((rd_T48 n0 a1).f0) := of_decide_eq_true zq40_; have ad0 : ((rd_T48 n0 a1).f0) < 4 := of_decide_eq_true zq40_; have aD0 := ixcellB4 (w := q2) ((rd_T48 n0 a1).f0) ac0 ad0 b1.out; have aR0 := blk_frozen b1.out ((rd_T48 n0 a1).f0).toNat; have aH0 := eq_true ac0; have aI0 := eq_true ad0; (try rw [← bg0.out] at aD0)))
         go_ret
         exact ⟨zq44_, zq4d_⟩
        ·replace H := bs_ H; obtain ⟨i3, F1, H⟩ := H; (try dsimp only at H); replace H := ifB_ H
         rcases H with ⟨rfl, H⟩ | ⟨rfl, H⟩
         ·have H' := Aside0.mk H; clear H; have s0 : 0 ≤ (a1 : Int) := of_decide_eq_true zq40_; have t0 : a1 < (n0.length : Int) := of_decide_eq_true zq40_; obtain ⟨y0, N0, p0, p1⟩ := at_T48 aC0.out a1 s0 t0; cases N0; replace p0 := pb_ HB.out p0; replace p1 := pb_ HB.out p1; replace s0 := eq_true s0; replace t0 := eq_true t0
          go_wp2_with (first | ((with_reducible refine gate_dst (N := 6) rfl ?_); (try (refine gate_guard (by rfl) ?_; dsimp only)); refine bxe_ (N := 6) (cs := #[.int .i64 0, .int .i64 0]) (t := 48) ?_; intro c12 hg q2 x hb; have d0 := Aside0.mk (blk_below (g := c0) (o := .cells #[.slice (some y0) n0.length P0, .slice T1 n1.length P1, .int .i64 e0, .int .i64 e1] 30 (0, 0)) zq19_ hb); have d1 := Aside0.mk (blk_below (g := c10) (o := .cells #[.bool a2, .bool a3, .bool a4, .bool a5] 51 (0, 0)) zq1a_ hb); have d2 := Aside0.mk (blk_below (g := c11) (o := .cells #[.bool false, .bool false, .bool false, .bool false] 51 (0, 0)) zq1b_ hb); have d3 := Aside0.mk (below_step zq4e_ hb); have d4 := Aside0.mk (x); have d5 := Aside0.mk ((zq7e_ : w.heap.size ≤ c12)); have d6 := Aside0.mk ((zq7e_ : w.heap.size ≤ c12)); have d7 := Aside0.mk ((zq97_ : c0 ≠ c12)); have d8 := Aside0.mk ((zq86_ : c12 ≠ c0)); have d9 := Aside0.mk ((zq9d_ : c10 ≠ c12)); have d10 := Aside0.mk ((zq8c_ : c12 ≠ c10)); have d11 := Aside0.mk ((zq9f_ : c11 ≠ c12)); have d12 := Aside0.mk ((zq8e_ : c12 ≠ c11)); clear b0; clear b1; clear b2; clear HB; have b0 := d0; have b1 := d1; have b2 := d2; have HB := d3; have b3 := d4; have z3 := d5; have j4 := d6; have f8 := d7; have f9 := d8; have f10 := d9; have f11 := d10; have f12 := d11; have f13 := d12; clear d0 d1 d2 d3 d4 d5 d6 d7 d8 d9 d10 d11 d12; clear hb x hg; have J2 := f9.out; have K2 := f8.out; have J3 := f11.out; have K3 := f10.out; have J4 := f13.out; have K4 := f12.out; obtain ⟨g36, g37, h36, h37⟩ := bz2_ b3.out) | ((with_reducible refine gate_callee (f := 64) rfl ?_); refine gl_ 55 Try.func64 #[.int .i64 ((rd_T48 n0 a1).f0), .int .i64 0, .int .i64 3] ?_; (with_reducible refine (impl_in.calls ((rd_T48 n0 a1).f0) 0 3 true _ F0.out).mono ?_); rintro e w' ⟨rfl, ⟨nd, rfl⟩⟩; refine ⟨_, rfl, ?_⟩; have J5 := f3.out; have K5 := f2.out; have J6 := f6.out; have K6 := f7.out; have ac0 : 0 ≤ ((rd_T48 n0 a1).f0) := of_decide_eq_true zq40_; have ad0 : ((rd_T48 n0 a1).f0) < 4 := of_decide_eq_true zq40_; have aD0 := ixcellB4 (w := q2) ((rd_T48 n0 a1).f0) ac0 ad0 b1.out; have aR0 := blk_frozen b1.out ((rd_T48 n0 a1).f0).toNat; have aH0 := eq_true ac0; have aI0 := eq_true ad0; (try rw [← bg0.out] at aD0)) | (go_at_call 64; (with_reducible refine (impl_in.calls ((rd_T48 n0 a1).f1) 0 1000000 true _ F1.out).mono ?_); rintro e w' ⟨rfl, ⟨nd, rfl⟩⟩; (try clear F1); have ac1 : 0 ≤ ((rd_T48 n0 a1).f0) := of_decide_eq_true zq40_; have ad1 : ((rd_T48 n0 a1).f0) < 4 := of_decide_eq_true zq40_; have aD1 := ixcellB4 (w := q2) ((rd_T48 n0 a1).f0) ac1 ad1 b1.out; have aR1 := blk_frozen b1.out ((rd_T48 n0 a1).f0).toNat; have aH1 := eq_true ac1; have aI1 := eq_true ad1; (try rw [← bg0.out] at aD1)) | ((with_reducible refine gate_store (t := 4) (p := 71) rfl ?_); refine store_event (t := 4) (p := 71) (v := ?vo_w55) (w1 := ?wo_w55) ?hg ?ho ?hn ?hr ?_; (case ho => rfl); (case hg => rfl); (case hn => rfl); (case hr => first | (go_simp; done) | (go_simp; rfl)); intro q7 hw; have d0 : Aside0 (q7.heap[c0]? = some (.cells #[.slice (some y0) n0.length P0, .slice T1 n1.length P1, .int .i64 e0, .int .i64 e1] 30 (0, 0))) := ⟨(by rw [hw]; exact (by (with_reducible repeat (first | refine blk_drewN ?_ _ | refine blk_drew ?_ | refine blk_alloc ?_ _)); refine blk_far ?_ f2.out _; (with_reducible repeat (first | refine blk_drewN ?_ _ | refine blk_drew ?_ | refine blk_alloc ?_ _)); refine blk_far ?_ f8.out _; (with_reducible repeat (first | refine blk_drewN ?_ _ | refine blk_drew ?_ | refine blk_alloc ?_ _)); refine blk_far ?_ f8.out _; (with_reducible repeat (first | refine blk_drewN ?_ _ | refine blk_drew ?_ | refine blk_alloc ?_ _)); exact b0.out))⟩; have d1 : Aside0 (q7.heap[c10]? = some (.cells #[.bool (ixB ((rd_T48 n0 a1).f0) 0 true a2), .bool (ixB ((rd_T48 n0 a1).f0) 1 true a3), .bool (ixB ((rd_T48 n0 a1).f0) 2 true a4), .bool (ixB ((rd_T48 n0 a1).f0) 3 true a5)] 51 (0, 0))) := ⟨(by rw [hw]; exact (by (with_reducible repeat (first | refine blk_drewN ?_ _ | refine blk_drew ?_ | refine blk_alloc ?_ _)); refine blk_put (cs := #[.bool a2, .bool a3, .bool a4, .bool a5]) ?_ ((rd_T48 n0 a1).f0).toNat _ (ixputB4 ((rd_T48 n0 a1).f0) true a2 a3 a4 a5 ac1 ad1); (with_reducible repeat (first | refine blk_drewN ?_ _ | refine blk_drew ?_ | refine blk_alloc ?_ _)); refine blk_far ?_ f10.out _; (with_reducible repeat (first | refine blk_drewN ?_ _ | refine blk_drew ?_ | refine blk_alloc ?_ _)); refine blk_far ?_ f10.out _; (with_reducible repeat (first | refine blk_drewN ?_ _ | refine blk_drew ?_ | refine blk_alloc ?_ _)); exact b1.out))⟩; have d2 : Aside0 (q7.heap[c11]? = some (.cells #[.bool false, .bool false, .bool false, .bool false] 51 (0, 0))) := ⟨(by rw [hw]; exact (by (with_reducible repeat (first | refine blk_drewN ?_ _ | refine blk_drew ?_ | refine blk_alloc ?_ _)); refine blk_far ?_ f7.out _; (with_reducible repeat (first | refine blk_drewN ?_ _ | refine blk_drew ?_ | refine blk_alloc ?_ _)); refine blk_far ?_ f12.out _; (with_reducible repeat (first | refine blk_drewN ?_ _ | refine blk_drew ?_ | refine blk_alloc ?_ _)); refine blk_far ?_ f12.out _; (with_reducible repeat (first | refine blk_drewN ?_ _ | refine blk_drew ?_ | refine blk_alloc ?_ _)); exact b2.out))⟩; have d3 : Aside0 (q7.heap[c12]? = some (.cells #[.int .i64 ((rd_T48 n0 a1).f0), .int .i64 ((rd_T48 n0 a1).f1)] 48 (0, 0))) := ⟨(by rw [hw]; exact (by (with_reducible repeat (first | refine blk_drewN ?_ _ | refine blk_drew ?_ | refine blk_alloc ?_ _)); refine blk_far ?_ f11.out _; (with_reducible repeat (first | refine blk_drewN ?_ _ | refine blk_drew ?_ | refine blk_alloc ?_ _)); refine blk_put (cs := #[.int .i64 ((rd_T48 n0 a1).f0), .int .i64 0]) ?_ 1 _ rfl; (with_reducible repeat (first | refine blk_drewN ?_ _ | refine blk_drew ?_ | refine blk_alloc ?_ _)); refine blk_put (cs := #[.int .i64 0, .int .i64 0]) ?_ 0 _ rfl; (with_reducible repeat (first | refine blk_drewN ?_ _ | refine blk_drew ?_ | refine blk_alloc ?_ _)); exact b3.out))⟩; have d4 : Aside0 (Below w.heap.size w q7) := ⟨(by rw [hw]; exact zq4d_)⟩; clear hw; clear b0; clear b1; clear b2; clear b3; clear HB; have b0 := d0; have b1 := d1; have b2 := d2; have b3 := d3; have HB := d4; clear d0 d1 d2 d3 d4))
          go_roundg k2
          case measure => have := ap0.out; have := ae0.out; omega
          case rel => exact ⟨(wrap64 (a1 + 1)), ((ixB ((rd_T48 n0 a1).f0) 0 true a2)), ((ixB ((rd_T48 n0 a1).f0) 1 true a3)), ((ixB ((rd_T48 n0 a1).f0) 2 true a4)), ((ixB ((rd_T48 n0 a1).f0) 3 true a5)), zq45_, H', ⟨by have := ap0.out; have := ae0.out; omega⟩, ⟨zq19_⟩, ⟨zq1a_⟩, ⟨zq1b_⟩, ⟨zq4d_⟩⟩
         ·obtain rfl := Option.some.inj H; have s0 : 0 ≤ (a1 : Int) := of_decide_eq_true zq40_; have t0 : a1 < (n0.length : Int) := of_decide_eq_true zq40_; obtain ⟨y0, N0, p0, p1⟩ := at_T48 aC0.out a1 s0 t0; cases N0; replace p0 := pb_ HB.out p0; replace p1 := pb_ HB.out p1; replace s0 := eq_true s0; replace t0 := eq_true t0
          go_wp2_with (first | ((with_reducible refine gate_dst (N := 6) rfl ?_); (try (refine gate_guard (by rfl) ?_; dsimp only)); refine bxe_ (N := 6) (cs := #[.int .i64 0, .int .i64 0]) (t := 48) ?_; intro c12 hg q2 x hb; have d0 := Aside0.mk (blk_below (g := c0) (o := .cells #[.slice (some y0) n0.length P0, .slice T1 n1.length P1, .int .i64 e0, .int .i64 e1] 30 (0, 0)) zq19_ hb); have d1 := Aside0.mk (blk_below (g := c10) (o := .cells #[.bool a2, .bool a3, .bool a4, .bool a5] 51 (0, 0)) zq1a_ hb); have d2 := Aside0.mk (blk_below (g := c11) (o := .cells #[.bool false, .bool false, .bool false, .bool false] 51 (0, 0)) zq1b_ hb); have d3 := Aside0.mk (below_step zq4e_ hb); have d4 := Aside0.mk (x); have d5 := Aside0.mk ((zq7e_ : w.heap.size ≤ c12)); have d6 := Aside0.mk ((zq7e_ : w.heap.size ≤ c12)); have d7 := Aside0.mk ((zq97_ : c0 ≠ c12)); have d8 := Aside0.mk ((zq86_ : c12 ≠ c0)); have d9 := Aside0.mk ((zq9d_ : c10 ≠ c12)); have d10 := Aside0.mk ((zq8c_ : c12 ≠ c10)); have d11 := Aside0.mk ((zq9f_ : c11 ≠ c12)); have d12 := Aside0.mk ((zq8e_ : c12 ≠ c11)); clear b0; clear b1; clear b2; clear HB; have b0 := d0; have b1 := d1; have b2 := d2; have HB := d3; have b3 := d4; have z3 := d5; have j4 := d6; have f8 := d7; have f9 := d8; have f10 := d9; have f11 := d10; have f12 := d11; have f13 := d12; clear d0 d1 d2 d3 d4 d5 d6 d7 d8 d9 d10 d11 d12; clear hb x hg; have J2 := f9.out; have K2 := f8.out; have J3 := f11.out; have K3 := f10.out; have J4 := f13.out; have K4 := f12.out; obtain ⟨g36, g37, h36, h37⟩ := bz2_ b3.out) | ((with_reducible refine gate_callee (f := 64) rfl ?_); refine gl_ 55 Try.func64 #[.int .i64 ((rd_T48 n0 a1).f0), .int .i64 0, .int .i64 3] ?_; (with_reducible refine (impl_in.calls ((rd_T48 n0 a1).f0) 0 3 true _ F0.out).mono ?_); rintro e w' ⟨rfl, ⟨nd, rfl⟩⟩; refine ⟨_, rfl, ?_⟩; have J5 := f3.out; have K5 := f2.out; have J6 := f6.out; have K6 := f7.out; have ac0 : 0 ≤ ((rd_T48 n0 a1).f0) := of_decide_eq_true zq40_; have ad0 : ((rd_T48 n0 a1).f0) < 4 := of_decide_eq_true zq40_; have aD0 := ixcellB4 (w := q2) ((rd_T48 n0 a1).f0) ac0 ad0 b1.out; have aR0 := blk_frozen b1.out ((rd_T48 n0 a1).f0).toNat; have aH0 := eq_true ac0; have aI0 := eq_true ad0; (try rw [← bg0.out] at aD0)) | (go_at_call 64; (with_reducible refine (impl_in.calls ((rd_T48 n0 a1).f1) 0 1000000 false _ F1.out).mono ?_); rintro e w' ⟨rfl, ⟨nd, rfl⟩⟩; (try clear F1)))
          go_ret
          exact ⟨zq44_, zq4d_⟩
       ·obtain rfl := Option.some.inj H; have s0 : 0 ≤ (a1 : Int) := of_decide_eq_true zq40_; have t0 : a1 < (n0.length : Int) := of_decide_eq_true zq40_; obtain ⟨y0, N0, p0, p1⟩ := at_T48 aC0.out a1 s0 t0; cases N0; replace p0 := pb_ HB.out p0; replace p1 := pb_ HB.out p1; replace s0 := eq_true s0; replace t0 := eq_true t0
        go_wp2_with (first | ((with_reducible refine gate_dst (N := 6) rfl ?_); (try (refine gate_guard (by rfl) ?_; dsimp only)); refine bxe_ (N := 6) (cs := #[.int .i64 0, .int .i64 0]) (t := 48) ?_; intro c12 hg q2 x hb; have d0 := Aside0.mk (blk_below (g := c0) (o := .cells #[.slice (some y0) n0.length P0, .slice T1 n1.length P1, .int .i64 e0, .int .i64 e1] 30 (0, 0)) zq19_ hb); have d1 := Aside0.mk (blk_below (g := c10) (o := .cells #[.bool a2, .bool a3, .bool a4, .bool a5] 51 (0, 0)) zq1a_ hb); have d2 := Aside0.mk (blk_below (g := c11) (o := .cells #[.bool false, .bool false, .bool false, .bool false] 51 (0, 0)) zq1b_ hb); have d3 := Aside0.mk (below_step zq4e_ hb); have d4 := Aside0.mk (x); have d5 := Aside0.mk ((zq7e_ : w.heap.size ≤ c12)); have d6 := Aside0.mk ((zq7e_ : w.heap.size ≤ c12)); have d7 := Aside0.mk ((zq97_ : c0 ≠ c12)); have d8 := Aside0.mk ((zq86_ : c12 ≠ c0)); have d9 := Aside0.mk ((zq9d_ : c10 ≠ c12)); have d10 := Aside0.mk ((zq8c_ : c12 ≠ c10)); have d11 := Aside0.mk ((zq9f_ : c11 ≠ c12)); have d12 := Aside0.mk ((zq8e_ : c12 ≠ c11)); clear b0; clear b1; clear b2; clear HB; have b0 := d0; have b1 := d1; have b2 := d2; have HB := d3; have b3 := d4; have z3 := d5; have j4 := d6; have f8 := d7; have f9 := d8; have f10 := d9; have f11 := d10; have f12 := d11; have f13 := d12; clear d0 d1 d2 d3 d4 d5 d6 d7 d8 d9 d10 d11 d12; clear hb x hg; have J2 := f9.out; have K2 := f8.out; have J3 := f11.out; have K3 := f10.out; have J4 := f13.out; have K4 := f12.out; obtain ⟨g36, g37, h36, h37⟩ := bz2_ b3.out) | ((with_reducible refine gate_callee (f := 64) rfl ?_); refine gl_ 55 Try.func64 #[.int .i64 ((rd_T48 n0 a1).f0), .int .i64 0, .int .i64 3] ?_; (with_reducible refine (impl_in.calls ((rd_T48 n0 a1).f0) 0 3 false _ F0.out).mono ?_); rintro e w' ⟨rfl, ⟨nd, rfl⟩⟩; refine ⟨_, rfl, ?_⟩))
        go_ret
        exact ⟨zq44_, zq4d_⟩
      ·have H' := Aside0.mk H; clear H; have J2 := f2.out; have K2 := f3.out; have J3 := f4.out; have K3 := f5.out; obtain ⟨g36, g37, g38, g39, h36, h37, h38, h39⟩ := bz4_ b0.out
       go_wp2
       go_loopg [76] k2 (fun kq af2 w' => ∃ (a6 : Int) (a7 : Bool) (a8 : Bool) (a9 : Bool) (a10 : Bool), af2 = .int .i64 a6 ∧ Aside0 (impl_ExecOk.l1 kq n1 (n1.length : Int) a6 a7 a8 a9 a10 = some r) ∧ Aside0 (kq ≤ k2) ∧ Aside0 (w'.heap[c0]? = some (.cells #[(.slice T0 n0.length P0), (.slice T1 n1.length P1), .int .i64 e0, .int .i64 e1] 30 (0, 0))) ∧ Aside0 (w'.heap[c10]? = some (.cells #[.bool a2, .bool a3, .bool a4, .bool a5] 51 (0, 0))) ∧ Aside0 (w'.heap[c11]? = some (.cells #[.bool a7, .bool a8, .bool a9, .bool a10] 51 (0, 0))) ∧ Aside0 (Below w.heap.size w w'))
       case atStart => exact ⟨(0), (false), (false), (false), (false), zq45_, H', ⟨Nat.le_refl _⟩, ⟨zq19_⟩, ⟨zq1a_⟩, ⟨zq1b_⟩, ⟨zq4e_⟩⟩
       case round =>
        clear H'
        try clear c1
        try clear c2
        try clear p2
        try clear c3
        try clear p3
        try clear q3
        try clear hx3
        try clear c4
        try clear p4
        try clear q4
        try clear c5
        try clear p5
        try clear q5
        try clear c6
        try clear p6
        try clear q6
        try clear c7
        try clear c8
        try clear r0
        try clear r1
        try clear c9
        try clear r2
        try clear r3
        try clear u0
        try clear r4
        try clear r5
        try clear u1
        try clear r6
        try clear r7
        try clear u2
        try clear r8
        try clear r9
        try clear c20
        try clear c21
        try clear c24
        try clear c25
        try clear c27
        try clear c27b0
        try clear c28
        try clear r10
        try clear c29
        try clear r11
        try clear c31
        try clear p31
        try clear q31
        try clear hx31
        try clear c32
        try clear r12
        try clear c33
        try clear r13
        try clear q34
        try clear c35
        try clear c37
        try clear c38
        try clear c39
        try clear p41
        try clear q41
        try clear c42
        try clear c43
        try clear c45
        try clear c47
        try clear c48
        try clear c49
        try clear p51
        try clear q51
        try clear c52
        try clear c53
        try clear p54
        try clear q54
        try clear c57
        try clear c58
        try clear c59
        try clear p61
        try clear q61
        try clear c62
        try clear c63
        try clear c64
        try clear p64
        try clear c65
        try clear c66
        try clear c67
        try clear c69
        try clear c70
        try clear g0 g1 g2 g3 h0 h1 h2 h3
        try clear g4 g5 g6 g7 h4 h5 h6 h7
        try clear g8 g9 g10 g11 h8 h9 h10 h11
        try clear g12 g13 g14 g15 h12 h13 h14 h15
        try clear g16 g17 g18 g19 h16 h17 h18 h19
        try clear g20 g21 g22 g23 h20 h21 h22 h23
        try clear g24 g25 g26 g27 h24 h25 h26 h27
        try clear g28 g29 g30 g31 h28 h29 h30 h31
        try clear g32 g33 g34 g35 h32 h33 h34 h35
        try clear g40 g41 h40 h41
        try clear g42 g43 h42 h43
        try clear g44 g45 h44 h45
        try clear g46 g47 h46 h47
        try clear g36 g37 g38 g39 h36 h37 h38 h39
        try clear p0
        try clear p1
        try clear p2
        try clear s0
        try clear t0
        obtain ⟨a6, a7, a8, a9, a10, rfl, HA, ae1, b0, b1, b2, HB⟩ := hrel
        cases gk with
        | zero => exact absurd HA.out (by simp [impl_ExecOk.l1])
        | succ k3 =>
         have H := HA.out; clear HA; simp only [impl_ExecOk.l1] at H; replace H := ifc_ H
         rcases H with ⟨c72b0, H⟩ | ⟨c72b0, H⟩
         ·replace H := ifd2_ H; obtain ⟨r14, r15, H⟩ := H; replace H := bs_ H; obtain ⟨i2, F0, H⟩ := H; (try dsimp only at H); replace H := ifB_ H
          rcases H with ⟨rfl, H⟩ | ⟨rfl, H⟩
          ·replace H := ifd2_ H; obtain ⟨r16, r17, H⟩ := H; obtain ⟨bE0, bm0⟩ : ∃ b_ : Bool, b_ = (rdOf false [a7, a8, a9, a10] ((rd_T36 n1 a6).f0)) := ⟨_, rfl⟩; replace H : (if bE0 = true then (some false) else ((impl_in.f ((rd_T36 n1 a6).f1) (-1000000) 1000000).bind fun i3 => (if i3 = true then (impl_ExecOk.l1 k3 n1 (n1.length : Int) (wrap64 (a6 + 1)) (ixB ((rd_T36 n1 a6).f0) 0 true a7) (ixB ((rd_T36 n1 a6).f0) 1 true a8) (ixB ((rd_T36 n1 a6).f0) 2 true a9) (ixB ((rd_T36 n1 a6).f0) 3 true a10)) else (some false)))) = some r := by rw [← bm0] at H; exact H
           have bg0 := Aside0.mk bm0; clear bm0; replace H := ifB_ H
           rcases H with ⟨rfl, H⟩ | ⟨rfl, H⟩
           ·obtain rfl := Option.some.inj H; have s1 : 0 ≤ (a6 : Int) := of_decide_eq_true zq40_; have t1 : a6 < (n1.length : Int) := of_decide_eq_true zq40_; obtain ⟨y0, N0, p7, p8⟩ := at_T36 aC1.out a6 s1 t1; cases N0; replace p7 := pb_ HB.out p7; replace p8 := pb_ HB.out p8; replace s1 := eq_true s1; replace t1 := eq_true t1
            go_wp2_with (first | ((with_reducible refine gate_dst (N := 8) rfl ?_); (try (refine gate_guard (by rfl) ?_; dsimp only)); refine bxe_ (N := 8) (cs := #[.int .i64 0, .int .i64 0]) (t := 36) ?_; intro c12 hg q2 x hb; have d0 := Aside0.mk (blk_below (g := c0) (o := .cells #[.slice T0 n0.length P0, .slice (some y0) n1.length P1, .int .i64 e0, .int .i64 e1] 30 (0, 0)) zq19_ hb); have d1 := Aside0.mk (blk_below (g := c10) (o := .cells #[.bool a2, .bool a3, .bool a4, .bool a5] 51 (0, 0)) zq1a_ hb); have d2 := Aside0.mk (blk_below (g := c11) (o := .cells #[.bool a7, .bool a8, .bool a9, .bool a10] 51 (0, 0)) zq1b_ hb); have d3 := Aside0.mk (below_step zq4e_ hb); have d4 := Aside0.mk (x); have d5 := Aside0.mk ((zq7e_ : w.heap.size ≤ c12)); have d6 := Aside0.mk ((zq7e_ : w.heap.size ≤ c12)); have d7 := Aside0.mk ((zq98_ : c0 ≠ c12)); have d8 := Aside0.mk ((zq87_ : c12 ≠ c0)); have d9 := Aside0.mk ((zq9d_ : c10 ≠ c12)); have d10 := Aside0.mk ((zq8c_ : c12 ≠ c10)); have d11 := Aside0.mk ((zq9e_ : c11 ≠ c12)); have d12 := Aside0.mk ((zq8d_ : c12 ≠ c11)); clear b0; clear b1; clear b2; clear HB; have b0 := d0; have b1 := d1; have b2 := d2; have HB := d3; have b3 := d4; have z3 := d5; have j4 := d6; have f8 := d7; have f9 := d8; have f10 := d9; have f11 := d10; have f12 := d11; have f13 := d12; clear d0 d1 d2 d3 d4 d5 d6 d7 d8 d9 d10 d11 d12; clear hb x hg; have J4 := f9.out; have K4 := f8.out; have J5 := f11.out; have K5 := f10.out; have J6 := f13.out; have K6 := f12.out; obtain ⟨g48, g49, h48, h49⟩ := bz2_ b3.out) | ((with_reducible refine gate_callee (f := 64) rfl ?_); refine gl_ 82 Try.func64 #[.int .i64 ((rd_T36 n1 a6).f0), .int .i64 0, .int .i64 3] ?_; (with_reducible refine (impl_in.calls ((rd_T36 n1 a6).f0) 0 3 true _ F0.out).mono ?_); rintro e w' ⟨rfl, ⟨nd, rfl⟩⟩; refine ⟨_, rfl, ?_⟩; have J7 := f5.out; have K7 := f4.out; have J8 := f7.out; have K8 := f6.out; have ac0 : 0 ≤ ((rd_T36 n1 a6).f0) := of_decide_eq_true zq40_; have ad0 : ((rd_T36 n1 a6).f0) < 4 := of_decide_eq_true zq40_; have aD0 := ixcellB4 (w := q2) ((rd_T36 n1 a6).f0) ac0 ad0 b2.out; have aR0 := blk_frozen b2.out ((rd_T36 n1 a6).f0).toNat; have aH0 := eq_true ac0; have aI0 := eq_true ad0; (try rw [← bg0.out] at aD0)))
            go_ret
            exact ⟨zq44_, zq4d_⟩
           ·replace H := bs_ H; obtain ⟨i3, F1, H⟩ := H; (try dsimp only at H); replace H := ifB_ H
            rcases H with ⟨rfl, H⟩ | ⟨rfl, H⟩
            ·have H' := Aside0.mk H; clear H; have s1 : 0 ≤ (a6 : Int) := of_decide_eq_true zq40_; have t1 : a6 < (n1.length : Int) := of_decide_eq_true zq40_; obtain ⟨y0, N0, p7, p8⟩ := at_T36 aC1.out a6 s1 t1; cases N0; replace p7 := pb_ HB.out p7; replace p8 := pb_ HB.out p8; replace s1 := eq_true s1; replace t1 := eq_true t1
             go_wp2_with (first | ((with_reducible refine gate_dst (N := 8) rfl ?_); (try (refine gate_guard (by rfl) ?_; dsimp only)); refine bxe_ (N := 8) (cs := #[.int .i64 0, .int .i64 0]) (t := 36) ?_; intro c12 hg q2 x hb; have d0 := Aside0.mk (blk_below (g := c0) (o := .cells #[.slice T0 n0.length P0, .slice (some y0) n1.length P1, .int .i64 e0, .int .i64 e1] 30 (0, 0)) zq19_ hb); have d1 := Aside0.mk (blk_below (g := c10) (o := .cells #[.bool a2, .bool a3, .bool a4, .bool a5] 51 (0, 0)) zq1a_ hb); have d2 := Aside0.mk (blk_below (g := c11) (o := .cells #[.bool a7, .bool a8, .bool a9, .bool a10] 51 (0, 0)) zq1b_ hb); have d3 := Aside0.mk (below_step zq4e_ hb); have d4 := Aside0.mk (x); have d5 := Aside0.mk ((zq7e_ : w.heap.size ≤ c12)); have d6 := Aside0.mk ((zq7e_ : w.heap.size ≤ c12)); have d7 := Aside0.mk ((zq98_ : c0 ≠ c12)); have d8 := Aside0.mk ((zq87_ : c12 ≠ c0)); have d9 := Aside0.mk ((zq9d_ : c10 ≠ c12)); have d10 := Aside0.mk ((zq8c_ : c12 ≠ c10)); have d11 := Aside0.mk ((zq9e_ : c11 ≠ c12)); have d12 := Aside0.mk ((zq8d_ : c12 ≠ c11)); clear b0; clear b1; clear b2; clear HB; have b0 := d0; have b1 := d1; have b2 := d2; have HB := d3; have b3 := d4; have z3 := d5; have j4 := d6; have f8 := d7; have f9 := d8; have f10 := d9; have f11 := d10; have f12 := d11; have f13 := d12; clear d0 d1 d2 d3 d4 d5 d6 d7 d8 d9 d10 d11 d12; clear hb x hg; have J4 := f9.out; have K4 := f8.out; have J5 := f11.out; have K5 := f10.out; have J6 := f13.out; have K6 := f12.out; obtain ⟨g48, g49, h48, h49⟩ := bz2_ b3.out) | ((with_reducible refine gate_callee (f := 64) rfl ?_); refine gl_ 82 Try.func64 #[.int .i64 ((rd_T36 n1 a6).f0), .int .i64 0, .int .i64 3] ?_; (with_reducible refine (impl_in.calls ((rd_T36 n1 a6).f0) 0 3 true _ F0.out).mono ?_); rintro e w' ⟨rfl, ⟨nd, rfl⟩⟩; refine ⟨_, rfl, ?_⟩; have J7 := f5.out; have K7 := f4.out; have J8 := f7.out; have K8 := f6.out; have ac0 : 0 ≤ ((rd_T36 n1 a6).f0) := of_decide_eq_true zq40_; have ad0 : ((rd_T36 n1 a6).f0) < 4 := of_decide_eq_true zq40_; have aD0 := ixcellB4 (w := q2) ((rd_T36 n1 a6).f0) ac0 ad0 b2.out; have aR0 := blk_frozen b2.out ((rd_T36 n1 a6).f0).toNat; have aH0 := eq_true ac0; have aI0 := eq_true ad0; (try rw [← bg0.out] at aD0)) | (go_at_call 64; (with_reducible refine (impl_in.calls ((rd_T36 n1 a6).f1) (-1000000) 1000000 true _ F1.out).mono ?_); rintro e w' ⟨rfl, ⟨nd, rfl⟩⟩; (try clear F1); have ac1 : 0 ≤ ((rd_T36 n1 a6).f0) := of_decide_eq_true zq40_; have ad1 : ((rd_T36 n1 a6).f0) < 4 := of_decide_eq_true zq40_; have aD1 := ixcellB4 (w := q2) ((rd_T36 n1 a6).f0) ac1 ad1 b2.out; have aR1 := blk_frozen b2.out ((rd_T36 n1 a6).f0).toNat; have aH1 := eq_true ac1; have aI1 := eq_true ad1; (try rw [← bg0.out] at aD1)) | ((with_reducible refine gate_store (t := 4) (p := 98) rfl ?_); refine store_event (t := 4) (p := 98) (v := ?vo_w100) (w1 := ?wo_w100) ?hg ?ho ?hn ?hr ?_; (case ho => rfl); (case hg => rfl); (case hn => rfl); (case hr => first | (go_simp; done) | (go_simp; rfl)); intro q7 hw; have d0 : Aside0 (q7.heap[c0]? = some (.cells #[.slice T0 n0.length P0, .slice (some y0) n1.length P1, .int .i64 e0, .int .i64 e1] 30 (0, 0))) := ⟨(by rw [hw]; exact (by (with_reducible repeat (first | refine blk_drewN ?_ _ | refine blk_drew ?_ | refine blk_alloc ?_ _)); refine blk_far ?_ f4.out _; (with_reducible repeat (first | refine blk_drewN ?_ _ | refine blk_drew ?_ | refine blk_alloc ?_ _)); refine blk_far ?_ f8.out _; (with_reducible repeat (first | refine blk_drewN ?_ _ | refine blk_drew ?_ | refine blk_alloc ?_ _)); refine blk_far ?_ f8.out _; (with_reducible repeat (first | refine blk_drewN ?_ _ | refine blk_drew ?_ | refine blk_alloc ?_ _)); exact b0.out))⟩; have d1 : Aside0 (q7.heap[c10]? = some (.cells #[.bool a2, .bool a3, .bool a4, .bool a5] 51 (0, 0))) := ⟨(by rw [hw]; exact (by (with_reducible repeat (first | refine blk_drewN ?_ _ | refine blk_drew ?_ | refine blk_alloc ?_ _)); refine blk_far ?_ f6.out _; (with_reducible repeat (first | refine blk_drewN ?_ _ | refine blk_drew ?_ | refine blk_alloc ?_ _)); refine blk_far ?_ f10.out _; (with_reducible repeat (first | refine blk_drewN ?_ _ | refine blk_drew ?_ | refine blk_alloc ?_ _)); refine blk_far ?_ f10.out _; (with_reducible repeat (first | refine blk_drewN ?_ _ | refine blk_drew ?_ | refine blk_alloc ?_ _)); exact b1.out))⟩; have d2 : Aside0 (q7.heap[c11]? = some (.cells #[.bool (ixB ((rd_T36 n1 a6).f0) 0 true a7), .bool (ixB ((rd_T36 n1 a6).f0) 1 true a8), .bool (ixB ((rd_T36 n1 a6).f0) 2 true a9), .bool (ixB ((rd_T36 n1 a6).f0) 3 true a10)] 51 (0, 0))) := ⟨(by rw [hw]; exact (by (with_reducible repeat (first | refine blk_drewN ?_ _ | refine blk_drew ?_ | refine blk_alloc ?_ _)); refine blk_put (cs := #[.bool a7, .bool a8, .bool a9, .bool a10]) ?_ ((rd_T36 n1 a6).f0).toNat _ (ixputB4 ((rd_T36 n1 a6).f0) true a7 a8 a9 a10 ac1 ad1); (with_reducible repeat (first | refine blk_drewN ?_ _ | refine blk_drew ?_ | refine blk_alloc ?_ _)); refine blk_far ?_ f12.out _; (with_reducible repeat (first | refine blk_drewN ?_ _ | refine blk_drew ?_ | refine blk_alloc ?_ _)); refine blk_far ?_ f12.out _; (with_reducible repeat (first | refine blk_drewN ?_ _ | refine blk_drew ?_ | refine blk_alloc ?_ _)); exact b2.out))⟩; have d3 : Aside0 (q7.heap[c12]? = some (.cells #[.int .i64 ((rd_T36 n1 a6).f0), .int .i64 ((rd_T36 n1 a6).f1)] 36 (0, 0))) := ⟨(by rw [hw]; exact (by (with_reducible repeat (first | refine blk_drewN ?_ _ | refine blk_drew ?_ | refine blk_alloc ?_ _)); refine blk_far ?_ f13.out _; (with_reducible repeat (first | refine blk_drewN ?_ _ | refine blk_drew ?_ | refine blk_alloc ?_ _)); refine blk_put (cs := #[.int .i64 ((rd_T36 n1 a6).f0), .int .i64 0]) ?_ 1 _ rfl; (with_reducible repeat (first | refine blk_drewN ?_ _ | refine blk_drew ?_ | refine blk_alloc ?_ _)); refine blk_put (cs := #[.int .i64 0, .int .i64 0]) ?_ 0 _ rfl; (with_reducible repeat (first | refine blk_drewN ?_ _ | refine blk_drew ?_ | refine blk_alloc ?_ _)); exact b3.out))⟩; have d4 : Aside0 (Below w.heap.size w q7) := ⟨(by rw [hw]; exact zq4d_)⟩; clear hw; clear b0; clear b1; clear b2; clear b3; clear HB; have b0 := d0; have b1 := d1; have b2 := d2; have b3 := d3; have HB := d4; clear d0 d1 d2 d3 d4))
             go_roundg k3
             case measure => have := ap0.out; have := ae0.out; have := ae1.out; omega
             case rel => exact ⟨(wrap64 (a6 + 1)), ((ixB ((rd_T36 n1 a6).f0) 0 true a7)), ((ixB ((rd_T36 n1 a6).f0) 1 true a8)), ((ixB ((rd_T36 n1 a6).f0) 2 true a9)), ((ixB ((rd_T36 n1 a6).f0) 3 true a10)), zq45_, H', ⟨by have := ap0.out; have := ae0.out; have := ae1.out; omega⟩, ⟨zq19_⟩, ⟨zq1a_⟩, ⟨zq1b_⟩, ⟨zq4d_⟩⟩
            ·obtain rfl := Option.some.inj H; have s1 : 0 ≤ (a6 : Int) := of_decide_eq_true zq40_; have t1 : a6 < (n1.length : Int) := of_decide_eq_true zq40_; obtain ⟨y0, N0, p7, p8⟩ := at_T36 aC1.out a6 s1 t1; cases N0; replace p7 := pb_ HB.out p7; replace p8 := pb_ HB.out p8; replace s1 := eq_true s1; replace t1 := eq_true t1
             go_wp2_with (first | ((with_reducible refine gate_dst (N := 8) rfl ?_); (try (refine gate_guard (by rfl) ?_; dsimp only)); refine bxe_ (N := 8) (cs := #[.int .i64 0, .int .i64 0]) (t := 36) ?_; intro c12 hg q2 x hb; have d0 := Aside0.mk (blk_below (g := c0) (o := .cells #[.slice T0 n0.length P0, .slice (some y0) n1.length P1, .int .i64 e0, .int .i64 e1] 30 (0, 0)) zq19_ hb); have d1 := Aside0.mk (blk_below (g := c10) (o := .cells #[.bool a2, .bool a3, .bool a4, .bool a5] 51 (0, 0)) zq1a_ hb); have d2 := Aside0.mk (blk_below (g := c11) (o := .cells #[.bool a7, .bool a8, .bool a9, .bool a10] 51 (0, 0)) zq1b_ hb); have d3 := Aside0.mk (below_step zq4e_ hb); have d4 := Aside0.mk (x); have d5 := Aside0.mk ((zq7e_ : w.heap.size ≤ c12)); have d6 := Aside0.mk ((zq7e_ : w.heap.size ≤ c12)); have d7 := Aside0.mk ((zq98_ : c0 ≠ c12)); have d8 := Aside0.mk ((zq87_ : c12 ≠ c0)); have d9 := Aside0.mk ((zq9d_ : c10 ≠ c12)); have d10 := Aside0.mk ((zq8c_ : c12 ≠ c10)); have d11 := Aside0.mk ((zq9e_ : c11 ≠ c12)); have d12 := Aside0.mk ((zq8d_ : c12 ≠ c11)); clear b0; clear b1; clear b2; clear HB; have b0 := d0; have b1 := d1; have b2 := d2; have HB := d3; have b3 := d4; have z3 := d5; have j4 := d6; have f8 := d7; have f9 := d8; have f10 := d9; have f11 := d10; have f12 := d11; have f13 := d12; clear d0 d1 d2 d3 d4 d5 d6 d7 d8 d9 d10 d11 d12; clear hb x hg; have J4 := f9.out; have K4 := f8.out; have J5 := f11.out; have K5 := f10.out; have J6 := f13.out; have K6 := f12.out; obtain ⟨g48, g49, h48, h49⟩ := bz2_ b3.out) | ((with_reducible refine gate_callee (f := 64) rfl ?_); refine gl_ 82 Try.func64 #[.int .i64 ((rd_T36 n1 a6).f0), .int .i64 0, .int .i64 3] ?_; (with_reducible refine (impl_in.calls ((rd_T36 n1 a6).f0) 0 3 true _ F0.out).mono ?_); rintro e w' ⟨rfl, ⟨nd, rfl⟩⟩; refine ⟨_, rfl, ?_⟩; have J7 := f5.out; have K7 := f4.out; have J8 := f7.out; have K8 := f6.out; have ac0 : 0 ≤ ((rd_T36 n1 a6).f0) := of_decide_eq_true zq40_; have ad0 : ((rd_T36 n1 a6).f0) < 4 := of_decide_eq_true zq40_; have aD0 := ixcellB4 (w := q2) ((rd_T36 n1 a6).f0) ac0 ad0 b2.out; have aR0 := blk_frozen b2.out ((rd_T36 n1 a6).f0).toNat; have aH0 := eq_true ac0; have aI0 := eq_true ad0; (try rw [← bg0.out] at aD0)) | (go_at_call 64; (with_reducible refine (impl_in.calls ((rd_T36 n1 a6).f1) (-1000000) 1000000 false _ F1.out).mono ?_); rintro e w' ⟨rfl, ⟨nd, rfl⟩⟩; (try clear F1)))
             go_ret
             exact ⟨zq44_, zq4d_⟩
          ·obtain rfl := Option.some.inj H; have s1 : 0 ≤ (a6 : Int) := of_decide_eq_true zq40_; have t1 : a6 < (n1.length : Int) := of_decide_eq_true zq40_; obtain ⟨y0, N0, p7, p8⟩ := at_T36 aC1.out a6 s1 t1; cases N0; replace p7 := pb_ HB.out p7; replace p8 := pb_ HB.out p8; replace s1 := eq_true s1; replace t1 := eq_true t1
           go_wp2_with (first | ((with_reducible refine gate_dst (N := 8) rfl ?_); (try (refine gate_guard (by rfl) ?_; dsimp only)); refine bxe_ (N := 8) (cs := #[.int .i64 0, .int .i64 0]) (t := 36) ?_; intro c12 hg q2 x hb; have d0 := Aside0.mk (blk_below (g := c0) (o := .cells #[.slice T0 n0.length P0, .slice (some y0) n1.length P1, .int .i64 e0, .int .i64 e1] 30 (0, 0)) zq19_ hb); have d1 := Aside0.mk (blk_below (g := c10) (o := .cells #[.bool a2, .bool a3, .bool a4, .bool a5] 51 (0, 0)) zq1a_ hb); have d2 := Aside0.mk (blk_below (g := c11) (o := .cells #[.bool a7, .bool a8, .bool a9, .bool a10] 51 (0, 0)) zq1b_ hb); have d3 := Aside0.mk (below_step zq4e_ hb); have d4 := Aside0.mk (x); have d5 := Aside0.mk ((zq7e_ : w.heap.size ≤ c12)); have d6 := Aside0.mk ((zq7e_ : w.heap.size ≤ c12)); have d7 := Aside0.mk ((zq98_ : c0 ≠ c12)); have d8 := Aside0.mk ((zq87_ : c12 ≠ c0)); have d9 := Aside0.mk ((zq9d_ : c10 ≠ c12)); have d10 := Aside0.mk ((zq8c_ : c12 ≠ c10)); have d11 := Aside0.mk ((zq9e_ : c11 ≠ c12)); have d12 := Aside0.mk ((zq8d_ : c12 ≠ c11)); clear b0; clear b1; clear b2; clear HB; have b0 := d0; have b1 := d1; have b2 := d2; have HB := d3; have b3 := d4; have z3 := d5; have j4 := d6; have f8 := d7; have f9 := d8; have f10 := d9; have f11 := d10; have f12 := d11; have f13 := d12; clear d0 d1 d2 d3 d4 d5 d6 d7 d8 d9 d10 d11 d12; clear hb x hg; have J4 := f9.out; have K4 := f8.out; have J5 := f11.out; have K5 := f10.out; have J6 := f13.out; have K6 := f12.out; obtain ⟨g48, g49, h48, h49⟩ := bz2_ b3.out) | ((with_reducible refine gate_callee (f := 64) rfl ?_); refine gl_ 82 Try.func64 #[.int .i64 ((rd_T36 n1 a6).f0), .int .i64 0, .int .i64 3] ?_; (with_reducible refine (impl_in.calls ((rd_T36 n1 a6).f0) 0 3 false _ F0.out).mono ?_); rintro e w' ⟨rfl, ⟨nd, rfl⟩⟩; refine ⟨_, rfl, ?_⟩))
           go_ret
           exact ⟨zq44_, zq4d_⟩
         ·obtain rfl := Option.some.inj H
          go_wp2
          go_ret
          exact ⟨zq44_, zq4e_⟩

end Go.Proofs.Ytgdafcakefnpdaa.PFnExactSerialOne

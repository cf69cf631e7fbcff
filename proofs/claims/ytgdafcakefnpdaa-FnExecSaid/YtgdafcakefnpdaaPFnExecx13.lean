-- Laid by this session's program out of the translation (gen.sh).
import Derived.Test.YtgdafcakefnpdaaPFnExecx0
import Derived.Test.YtgdafcakefnpdaaPFnExecx4
namespace Go.Proofs.Ytgdafcakefnpdaa.PFnExec
open Go.RowKit Go.Proofs.YtgdafcakefnpdaaW.PrintWords Go.Proofs.YtgdafcakefnpdaaW.PrintLast Go.Proofs.YtgdafcakefnpdaaW.PrintMore
attribute [local go_sem] max2_int min2_int max_two min_two max_three min_three max_four min_four   -- for this text's walks alone
set_option linter.unusedVariables false
set_option linter.unusedSimpArgs false

/-! ### impl_ExecOk: function 20 -/
mutual
def impl_ExecOk.j0 : Nat → Bool → List (S48) → List (S36) → Int → Int → Option (Bool)
 | 0, _, _, _, _, _ => none
 | k + 1, x45, x395000, x395001, x395002, x395003 => if x45 = true then (some false) else (impl_ExecOk.l0 k x395000 (x395000.length : Int) 0 x395000 x395001 x395002 x395003 false false false false false false false false)
def impl_ExecOk.l0 : Nat → List (S48) → Int → Int → List (S48) → List (S36) → Int → Int → Bool → Bool → Bool → Bool → Bool → Bool → Bool → Bool → Option (Bool)
 | 0, _, _, _, _, _, _, _, _, _, _, _, _, _, _, _ => none
 | k + 1, x47, x48, x49, x395000, x395001, x395002, x395003, x398000, x398001, x398002, x398003, x399000, x399001, x399002, x399003 => if x49 < x48 then (if 0 ≤ x49 then (if x49 < (x47.length : Int) then ((impl_in.f ((rd_T48 x47 x49).f0) 0 3).bind fun t401 => (if t401 = true then (if 0 ≤ ((rd_T48 x47 x49).f0) then (if ((rd_T48 x47 x49).f0) < 4 then (if rdOf false [x398000, x398001, x398002, x398003] ((rd_T48 x47 x49).f0) = true then (some false) else ((impl_in.f ((rd_T48 x47 x49).f1) 0 1000000).bind fun t402 => (if t402 = true then (impl_ExecOk.l0 k x47 x48 (wrap64 (x49 + 1)) x395000 x395001 x395002 x395003 (ixB ((rd_T48 x47 x49).f0) 0 true x398000) (ixB ((rd_T48 x47 x49).f0) 1 true x398001) (ixB ((rd_T48 x47 x49).f0) 2 true x398002) (ixB ((rd_T48 x47 x49).f0) 3 true x398003) x399000 x399001 x399002 x399003) else (some false)))) else (none)) else (none)) else (some false))) else (none)) else (none)) else (impl_ExecOk.l1 k x395001 (x395001.length : Int) 0 x399000 x399001 x399002 x399003)
def impl_ExecOk.l1 : Nat → List (S36) → Int → Int → Bool → Bool → Bool → Bool → Option (Bool)
 | 0, _, _, _, _, _, _, _ => none
 | k + 1, x74, x75, x76, x399000, x399001, x399002, x399003 => if x76 < x75 then (if 0 ≤ x76 then (if x76 < (x74.length : Int) then ((impl_in.f ((rd_T36 x74 x76).f0) 0 3).bind fun t405 => (if t405 = true then (if 0 ≤ ((rd_T36 x74 x76).f0) then (if ((rd_T36 x74 x76).f0) < 4 then (if rdOf false [x399000, x399001, x399002, x399003] ((rd_T36 x74 x76).f0) = true then (some false) else ((impl_in.f ((rd_T36 x74 x76).f1) (-1000000) 1000000).bind fun t406 => (if t406 = true then (impl_ExecOk.l1 k x74 x75 (wrap64 (x76 + 1)) (ixB ((rd_T36 x74 x76).f0) 0 true x399000) (ixB ((rd_T36 x74 x76).f0) 1 true x399001) (ixB ((rd_T36 x74 x76).f0) 2 true x399002) (ixB ((rd_T36 x74 x76).f0) 3 true x399003)) else (some false)))) else (none)) else (none)) else (some false))) else (none)) else (none)) else (some true)
end
def impl_ExecOk.f (k : Nat) (l0_0 : List (S48)) (l0_1 : List (S36)) (a0_2 : Int) (a0_3 : Int) : Option (Bool) := (impl_in.f a0_3 0 3).bind fun t395 => (if t395 = true then ((impl_in.f a0_2 (-1000000) 1000000).bind fun t396 => (if t396 = true then (if a0_3 = 0 then (if a0_3 = 3 then (impl_ExecOk.j0 k (decide ((l0_0.length : Int) > 0)) l0_0 l0_1 a0_2 a0_3) else (impl_ExecOk.j0 k false l0_0 l0_1 a0_2 a0_3)) else (if a0_2 = 0 then (if (l0_1.length : Int) > 0 then (impl_ExecOk.j0 k true l0_0 l0_1 a0_2 a0_3) else (if a0_3 = 3 then (impl_ExecOk.j0 k (decide ((l0_0.length : Int) > 0)) l0_0 l0_1 a0_2 a0_3) else (impl_ExecOk.j0 k false l0_0 l0_1 a0_2 a0_3))) else (impl_ExecOk.j0 k true l0_0 l0_1 a0_2 a0_3))) else (impl_ExecOk.j0 k true l0_0 l0_1 a0_2 a0_3))) else (impl_ExecOk.j0 k true l0_0 l0_1 a0_2 a0_3))
theorem impl_ExecOk.mono_l : ∀ k, (∀ y0 y1 y2 y3 y4, LeO (impl_ExecOk.j0 k y0 y1 y2 y3 y4) (impl_ExecOk.j0 (k + 1) y0 y1 y2 y3 y4)) ∧ (∀ y0 y1 y2 y3 y4 y5 y6 y7 y8 y9 K0 K1 K2 K3 K4, LeO (impl_ExecOk.l0 k y0 y1 y2 y3 y4 y5 y6 y7 y8 y9 K0 K1 K2 K3 K4) (impl_ExecOk.l0 (k + 1) y0 y1 y2 y3 y4 y5 y6 y7 y8 y9 K0 K1 K2 K3 K4)) ∧ (∀ y0 y1 y2 y3 y4 y5 y6, LeO (impl_ExecOk.l1 k y0 y1 y2 y3 y4 y5 y6) (impl_ExecOk.l1 (k + 1) y0 y1 y2 y3 y4 y5 y6))
 | 0 => ⟨fun _ _ _ _ _ r h => by simp [impl_ExecOk.j0] at h, fun _ _ _ _ _ _ _ _ _ _ _ _ _ _ _ r h => by simp [impl_ExecOk.l0] at h, fun _ _ _ _ _ _ _ r h => by simp [impl_ExecOk.l1] at h⟩
 | k + 1 => by
  obtain ⟨H0, H1, H2⟩ := impl_ExecOk.mono_l k
  refine ⟨?_, ?_, ?_⟩
  ·intro y0 y1 y2 y3 y4
   unfold impl_ExecOk.j0
   repeat' first
   | (with_reducible exact H0 _ _ _ _ _)
   | (with_reducible exact H1 _ _ _ _ _ _ _ _ _ _ _ _ _ _ _)
   | (with_reducible exact H2 _ _ _ _ _ _ _)
   | (with_reducible exact LeO.refl _)
   | (with_reducible exact LeO.none _)
   | (with_reducible refine LeO.ite ?_ ?_)
   | (with_reducible refine LeO.bind ?_ (fun _ => ?_))
   | exact H0 _ _ _ _ _
   | exact H1 _ _ _ _ _ _ _ _ _ _ _ _ _ _ _
   | exact H2 _ _ _ _ _ _ _
   | exact LeO.none _
   | refine LeO.ite ?_ ?_
   | refine LeO.bind ?_ (fun _ => ?_)
  ·intro y0 y1 y2 y3 y4 y5 y6 y7 y8 y9 K0 K1 K2 K3 K4
   unfold impl_ExecOk.l0
   repeat' first
   | (with_reducible exact H0 _ _ _ _ _)
   | (with_reducible exact H1 _ _ _ _ _ _ _ _ _ _ _ _ _ _ _)
   | (with_reducible exact H2 _ _ _ _ _ _ _)
   | (with_reducible exact LeO.refl _)
   | (with_reducible exact LeO.none _)
   | (with_reducible refine LeO.ite ?_ ?_)
   | (with_reducible refine LeO.bind ?_ (fun _ => ?_))
   | exact H0 _ _ _ _ _
   | exact H1 _ _ _ _ _ _ _ _ _ _ _ _ _ _ _
   | exact H2 _ _ _ _ _ _ _
   | exact LeO.none _
   | refine LeO.ite ?_ ?_
   | refine LeO.bind ?_ (fun _ => ?_)
  ·intro y0 y1 y2 y3 y4 y5 y6
   unfold impl_ExecOk.l1
   repeat' first
   | (with_reducible exact H0 _ _ _ _ _)
   | (with_reducible exact H1 _ _ _ _ _ _ _ _ _ _ _ _ _ _ _)
   | (with_reducible exact H2 _ _ _ _ _ _ _)
   | (with_reducible exact LeO.refl _)
   | (with_reducible exact LeO.none _)
   | (with_reducible refine LeO.ite ?_ ?_)
   | (with_reducible refine LeO.bind ?_ (fun _ => ?_))
   | exact H0 _ _ _ _ _
   | exact H1 _ _ _ _ _ _ _ _ _ _ _ _ _ _ _
   | exact H2 _ _ _ _ _ _ _
   | exact LeO.none _
   | refine LeO.ite ?_ ?_
   | refine LeO.bind ?_ (fun _ => ?_)
theorem impl_ExecOk.mono : ∀ a0 a1 a2 a3 k, LeO (impl_ExecOk.f k a0 a1 a2 a3) (impl_ExecOk.f (k + 1) a0 a1 a2 a3) := by
 intro a0 a1 a2 a3 k
 obtain ⟨H0, H1, H2⟩ := impl_ExecOk.mono_l k
 unfold impl_ExecOk.f
 repeat' first
   | (with_reducible exact H0 _ _ _ _ _)
   | (with_reducible exact H1 _ _ _ _ _ _ _ _ _ _ _ _ _ _ _)
   | (with_reducible exact H2 _ _ _ _ _ _ _)
   | (with_reducible exact LeO.refl _)
   | (with_reducible exact LeO.none _)
   | (with_reducible refine LeO.ite ?_ ?_)
   | (with_reducible refine LeO.bind ?_ (fun _ => ?_))
   | exact H0 _ _ _ _ _
   | exact H1 _ _ _ _ _ _ _ _ _ _ _ _ _ _ _
   | exact H2 _ _ _ _ _ _ _
   | exact LeO.none _
   | refine LeO.ite ?_ ?_
   | refine LeO.bind ?_ (fun _ => ?_)
set_option maxHeartbeats 8000000 in
set_option maxRecDepth 100000 in
theorem impl_ExecOk.calls (k : Nat) (P0 : Option Addr) (J0 : Nat) (n0 : List (S48)) (P1 : Option Addr) (J1 : Nat) (n1 : List (S36)) (g0 : Int) (g1 : Int) (r : Bool) (w : World) (ay0 : Kd.C k48 w P0 n0.length n0) (az0 : n0.length ≤ J0) (ay1 : Kd.C k36 w P1 n1.length n1) (az1 : n1.length ≤ J1) (h : impl_ExecOk.f k n0 n1 g0 g1 = some r) :
  Calls Try.prog 20 #[.agg #[.slice P0 n0.length J0, .slice P1 n1.length J1, .int .i64 g0, .int .i64 g1]] w fun e w' => e = .returned (.bool r) ∧ Below w.heap.size w w' := by
 have ap0 := Try.underlying30; have ap1 := Try.underlying51; have ap2 := Try.underlying48; have ap3 := Try.underlying36; have an0 := Aside0.mk ay0; have aD0 := Aside0.mk az0; clear ay0 az0; have an1 := Aside0.mk ay1; have aD1 := Aside0.mk az1; clear ay1 az1; have HB := Aside0.mk (Below.refl w.heap.size w); have H : ((impl_in.f g1 0 3).bind fun e0 => (if e0 = true then ((impl_in.f g0 (-1000000) 1000000).bind fun e1 => (if e1 = true then (if g1 = 0 then (if g1 = 3 then (impl_ExecOk.j0 k (decide ((n0.length : Int) > 0)) n0 n1 g0 g1) else (impl_ExecOk.j0 k false n0 n1 g0 g1)) else (if g0 = 0 then (if (n1.length : Int) > 0 then (impl_ExecOk.j0 k true n0 n1 g0 g1) else (if g1 = 3 then (impl_ExecOk.j0 k (decide ((n0.length : Int) > 0)) n0 n1 g0 g1) else (impl_ExecOk.j0 k false n0 n1 g0 g1))) else (impl_ExecOk.j0 k true n0 n1 g0 g1))) else (impl_ExecOk.j0 k true n0 n1 g0 g1))) else (impl_ExecOk.j0 k true n0 n1 g0 g1))) = some r := h; clear h; have ae0 := Aside0.mk H; clear H
 go_enter Try.func20, Try.ntmps20
 go_upto_region 1 with (first | ((with_reducible refine gate_dst (N := 1) rfl ?_); (try (refine gate_guard (by rfl) ?_; dsimp only)); refine bxe_ (N := 1) (cs := #[.slice P0 n0.length J0, .slice P1 n1.length J1, .int .i64 g0, .int .i64 g1]) (t := 30) ?_; intro c0 hg w3 y hb; have n_ := A4_ (below_step zq6c_ hb) (y) ((zqa8_ : w.heap.size ≤ c0)) ((zqa8_ : w.heap.size ≤ c0)); clear HB; obtain ⟨HB, b0, x0, l2⟩ := n_; clear hb y hg))
 (try simp only [Act.put, List.setIfInBounds_toArray, List.set_cons_zero, List.set_cons_succ])
 go_cut [45] (fun X0 wc => ∃ (kq : Nat) (a0 : Bool), X0 = .bool a0 ∧ Aside0 (impl_ExecOk.j0 kq a0 n0 n1 g0 g1 = some r) ∧ Aside0 (kq ≤ k) ∧ Aside0 (wc.heap[c0]? = some (.cells #[(.slice P0 n0.length J0), (.slice P1 n1.length J1), .int .i64 g0, .int .i64 g1] 30 (0, 0))) ∧ Aside0 (Below w.heap.size w wc))
 case first =>
  have H := ae0.out; clear ae0; replace H := bs_ H; obtain ⟨e0, A4, H⟩ := H; (try dsimp only at H); replace H := ifB_ H
  rcases H with ⟨rfl, H⟩ | ⟨rfl, H⟩
  ·replace H := bs_ H; obtain ⟨e1, A6, H⟩ := H; (try dsimp only at H); replace H := ifB_ H
   rcases H with ⟨rfl, H⟩ | ⟨rfl, H⟩
   ·by_cases c8 : g1 = 0
    ·rw [if_pos c8] at H; have s0 : (g1 == 0) = true := beq_iff_eq.mpr c8; have s1 : (g1 != 0) = false := bne_eq_false_iff_eq.mpr c8; clear c8; (first | rw [s0] | (simp only [i64_w, i32_w]; rw [s0]) | skip); by_cases c9 : g1 = 3
     ·rw [if_pos c9] at H; have s2 : (g1 == 3) = true := beq_iff_eq.mpr c9; have s3 : (g1 != 3) = false := bne_eq_false_iff_eq.mpr c9; clear c9; have H' := Aside0.mk H; clear H; obtain ⟨h0, h1, h2, h3, i0, i1, i2, i3⟩ := bz4_ b0.out
      go_wp2_with (first | ((with_reducible refine gate_callee (f := 64) rfl ?_); refine gl_ 11 Try.func64 #[.int .i64 g1, .int .i64 0, .int .i64 3] ?_; (with_reducible refine (impl_in.calls g1 0 3 true _ A4.out).mono ?_); rintro e w' ⟨rfl, ⟨nd, rfl⟩⟩; refine ⟨_, rfl, ?_⟩) | (go_at_call 64; (with_reducible refine (impl_in.calls g0 (-1000000) 1000000 true _ A6.out).mono ?_); rintro e w' ⟨rfl, ⟨nd, rfl⟩⟩; (try clear A6)))
      go_meet
      case rel => exact ⟨_, (decide ((n0.length : Int) > 0)), zq5a_, H', ⟨zq58_⟩, ⟨zq25_⟩, ⟨zq6b_⟩⟩
     ·rw [if_neg c9] at H; have s2 : (g1 == 3) = false := beq_eq_false_iff_ne.mpr c9; have s3 : (g1 != 3) = true := bne_iff_ne.mpr c9; have H' := Aside0.mk H; clear H; obtain ⟨h0, h1, h2, h3, i0, i1, i2, i3⟩ := bz4_ b0.out
      go_wp2_with (first | ((with_reducible refine gate_callee (f := 64) rfl ?_); refine gl_ 11 Try.func64 #[.int .i64 g1, .int .i64 0, .int .i64 3] ?_; (with_reducible refine (impl_in.calls g1 0 3 true _ A4.out).mono ?_); rintro e w' ⟨rfl, ⟨nd, rfl⟩⟩; refine ⟨_, rfl, ?_⟩) | (go_at_call 64; (with_reducible refine (impl_in.calls g0 (-1000000) 1000000 true _ A6.out).mono ?_); rintro e w' ⟨rfl, ⟨nd, rfl⟩⟩; (try clear A6)))
      go_meet
      case rel => exact ⟨_, (false), zq5a_, H', ⟨zq58_⟩, ⟨zq25_⟩, ⟨zq6b_⟩⟩
    ·rw [if_neg c8] at H; have s0 : (g1 == 0) = false := beq_eq_false_iff_ne.mpr c8; have s1 : (g1 != 0) = true := bne_iff_ne.mpr c8; (first | rw [s0] | (simp only [i64_w, i32_w]; rw [s0]) | skip); by_cases v0 : g0 = 0
     ·rw [if_pos v0] at H; have s2 : (g0 == 0) = true := beq_iff_eq.mpr v0; have s3 : (g0 != 0) = false := bne_eq_false_iff_eq.mpr v0; clear v0; by_cases v1 : (n1.length : Int) > 0
      ·rw [if_pos v1] at H; have s4 : decide (0 < (n1.length : Int)) = true := decide_eq_true v1; have s5 : decide (0 < n1.length) = true := decide_eq_true (by omega); clear v1; have H' := Aside0.mk H; clear H; obtain ⟨h0, h1, h2, h3, i0, i1, i2, i3⟩ := bz4_ b0.out
       go_wp2_with (first | ((with_reducible refine gate_callee (f := 64) rfl ?_); refine gl_ 11 Try.func64 #[.int .i64 g1, .int .i64 0, .int .i64 3] ?_; (with_reducible refine (impl_in.calls g1 0 3 true _ A4.out).mono ?_); rintro e w' ⟨rfl, ⟨nd, rfl⟩⟩; refine ⟨_, rfl, ?_⟩) | (go_at_call 64; (with_reducible refine (impl_in.calls g0 (-1000000) 1000000 true _ A6.out).mono ?_); rintro e w' ⟨rfl, ⟨nd, rfl⟩⟩; (try clear A6)))
       go_meet
       case rel => exact ⟨_, (true), zq5a_, H', ⟨zq58_⟩, ⟨zq25_⟩, ⟨zq6b_⟩⟩
      ·rw [if_neg v1] at H; have s4 : decide (0 < (n1.length : Int)) = false := decide_eq_false v1; have s5 : decide (0 < n1.length) = false := decide_eq_false (by omega); clear v1; by_cases v2 : g1 = 3
       ·rw [if_pos v2] at H; have s6 : (g1 == 3) = true := beq_iff_eq.mpr v2; have s7 : (g1 != 3) = false := bne_eq_false_iff_eq.mpr v2; clear v2; have H' := Aside0.mk H; clear H; obtain ⟨h0, h1, h2, h3, i0, i1, i2, i3⟩ := bz4_ b0.out
        go_wp2_with (first | ((with_reducible refine gate_callee (f := 64) rfl ?_); refine gl_ 11 Try.func64 #[.int .i64 g1, .int .i64 0, .int .i64 3] ?_; (with_reducible refine (impl_in.calls g1 0 3 true _ A4.out).mono ?_); rintro e w' ⟨rfl, ⟨nd, rfl⟩⟩; refine ⟨_, rfl, ?_⟩) | (go_at_call 64; (with_reducible refine (impl_in.calls g0 (-1000000) 1000000 true _ A6.out).mono ?_); rintro e w' ⟨rfl, ⟨nd, rfl⟩⟩; (try clear A6)))
        go_meet
        case rel => exact ⟨_, (decide ((n0.length : Int) > 0)), zq5a_, H', ⟨zq58_⟩, ⟨zq25_⟩, ⟨zq6b_⟩⟩
       ·rw [if_neg v2] at H; have s6 : (g1 == 3) = false := beq_eq_false_iff_ne.mpr v2; have s7 : (g1 != 3) = true := bne_iff_ne.mpr v2; have H' := Aside0.mk H; clear H; obtain ⟨h0, h1, h2, h3, i0, i1, i2, i3⟩ := bz4_ b0.out
        go_wp2_with (first | ((with_reducible refine gate_callee (f := 64) rfl ?_); refine gl_ 11 Try.func64 #[.int .i64 g1, .int .i64 0, .int .i64 3] ?_; (with_reducible refine (impl_in.calls g1 0 3 true _ A4.out).mono ?_); rintro e w' ⟨rfl, ⟨nd, rfl⟩⟩; refine ⟨_, rfl, ?_⟩) | (go_at_call 64; (with_reducible refine (impl_in.calls g0 (-1000000) 1000000 true _ A6.out).mono ?_); rintro e w' ⟨rfl, ⟨nd, rfl⟩⟩; (try clear A6)))
        go_meet
        case rel => exact ⟨_, (false), zq5a_, H', ⟨zq58_⟩, ⟨zq25_⟩, ⟨zq6b_⟩⟩
     ·rw [if_neg v0] at H; have s2 : (g0 == 0) = false := beq_eq_false_iff_ne.mpr v0; have s3 : (g0 != 0) = true := bne_iff_ne.mpr v0; have H' := Aside0.mk H; clear H; obtain ⟨h0, h1, h2, h3, i0, i1, i2, i3⟩ := bz4_ b0.out
      go_wp2_with (first | ((with_reducible refine gate_callee (f := 64) rfl ?_); refine gl_ 11 Try.func64 #[.int .i64 g1, .int .i64 0, .int .i64 3] ?_; (with_reducible refine (impl_in.calls g1 0 3 true _ A4.out).mono ?_); rintro e w' ⟨rfl, ⟨nd, rfl⟩⟩; refine ⟨_, rfl, ?_⟩) | (go_at_call 64; (with_reducible refine (impl_in.calls g0 (-1000000) 1000000 true _ A6.out).mono ?_); rintro e w' ⟨rfl, ⟨nd, rfl⟩⟩; (try clear A6)))
      go_meet
      case rel => exact ⟨_, (true), zq5a_, H', ⟨zq58_⟩, ⟨zq25_⟩, ⟨zq6b_⟩⟩
   ·have H' := Aside0.mk H; clear H; obtain ⟨h0, h1, h2, h3, i0, i1, i2, i3⟩ := bz4_ b0.out
    go_wp2_with (first | ((with_reducible refine gate_callee (f := 64) rfl ?_); refine gl_ 11 Try.func64 #[.int .i64 g1, .int .i64 0, .int .i64 3] ?_; (with_reducible refine (impl_in.calls g1 0 3 true _ A4.out).mono ?_); rintro e w' ⟨rfl, ⟨nd, rfl⟩⟩; refine ⟨_, rfl, ?_⟩) | (go_at_call 64; (with_reducible refine (impl_in.calls g0 (-1000000) 1000000 false _ A6.out).mono ?_); rintro e w' ⟨rfl, ⟨nd, rfl⟩⟩; (try clear A6)))
    go_meet
    case rel => exact ⟨_, (true), zq5a_, H', ⟨zq58_⟩, ⟨zq25_⟩, ⟨zq6b_⟩⟩
  ·have H' := Aside0.mk H; clear H; obtain ⟨h0, h1, h2, h3, i0, i1, i2, i3⟩ := bz4_ b0.out
   go_wp2_with (first | ((with_reducible refine gate_callee (f := 64) rfl ?_); refine gl_ 11 Try.func64 #[.int .i64 g1, .int .i64 0, .int .i64 3] ?_; (with_reducible refine (impl_in.calls g1 0 3 false _ A4.out).mono ?_); rintro e w' ⟨rfl, ⟨nd, rfl⟩⟩; refine ⟨_, rfl, ?_⟩))
   go_meet
   case rel => exact ⟨_, (true), zq5a_, H', ⟨zq58_⟩, ⟨zq25_⟩, ⟨zq6b_⟩⟩
 case rest =>
  clear ae0
  try clear c1
  try clear c2
  try clear p2
  try clear c5
  try clear c6
  try clear c7
  try clear c8
  try clear s0
  try clear s1
  try clear c9
  try clear s2
  try clear s3
  try clear v0
  try clear s4
  try clear s5
  try clear v1
  try clear s6
  try clear s7
  try clear v2
  try clear s8
  try clear s9
  try clear c20
  try clear h0 h1 h2 h3 i0 i1 i2 i3
  try clear h4 h5 h6 h7 i4 i5 i6 i7
  try clear h8 h9 h10 h11 i8 i9 i10 i11
  try clear h12 h13 h14 h15 i12 i13 i14 i15
  try clear h16 h17 h18 h19 i16 i17 i18 i19
  try clear h20 h21 h22 h23 i20 i21 i22 i23
  try clear h24 h25 h26 h27 i24 i25 i26 i27
  try clear h28 h29 h30 h31 i28 i29 i30 i31
  obtain ⟨kq, a0, rfl, HA, am0, b0, HB⟩ := hcut
  cases kq with
  | zero => exact absurd HA.out (by simp [impl_ExecOk.j0])
  | succ kj1 =>
   have H := HA.out; clear HA; simp only [impl_ExecOk.j0] at H; replace H := ifB_ H
   rcases H with ⟨rfl, H⟩ | ⟨rfl, H⟩
   ·obtain rfl := Option.some.inj H
    go_wp2
    go_ret
    exact ⟨zq59_, zq6b_⟩
   ·have H' := Aside0.mk H; clear H
    go_wp2_with (first | ((with_reducible refine gate_dst (N := 3) rfl ?_); (try (refine gate_guard (by rfl) ?_; dsimp only)); refine bxe_ (N := 3) (cs := #[.bool false, .bool false, .bool false, .bool false]) (t := 51) ?_; intro c10 hg r0 y hb; have n_ := A7_ (blk_below (g := c0) (o := .cells #[.slice P0 n0.length J0, .slice P1 n1.length J1, .int .i64 g0, .int .i64 g1] 30 (0, 0)) zq25_ hb) (below_step zq6b_ hb) (y) ((zqa7_ : w.heap.size ≤ c10)) ((zqa7_ : w.heap.size ≤ c10)) ((zqc1_ : c0 ≠ c10)) ((zqb0_ : c10 ≠ c0)); clear b0 HB; obtain ⟨b0, HB, b1, x1, l3, f2, f3⟩ := n_; clear hb y hg) | ((with_reducible refine gate_dst (N := 4) rfl ?_); (try (refine gate_guard (by rfl) ?_; dsimp only)); refine bxe_ (N := 4) (cs := #[.bool false, .bool false, .bool false, .bool false]) (t := 51) ?_; intro c11 hg r1 y hb; have d0 := Aside0.mk (blk_below (g := c0) (o := .cells #[.slice P0 n0.length J0, .slice P1 n1.length J1, .int .i64 g0, .int .i64 g1] 30 (0, 0)) zq25_ hb); have d1 := Aside0.mk (blk_below (g := c10) (o := .cells #[.bool false, .bool false, .bool false, .bool false] 51 (0, 0)) zq26_ hb); have d2 := Aside0.mk (below_step zq6a_ hb); have d3 := Aside0.mk (y); have d4 := Aside0.mk ((zqa6_ : w.heap.size ≤ c11)); have d5 := Aside0.mk ((zqa6_ : w.heap.size ≤ c11)); have d6 := Aside0.mk ((zqc1_ : c0 ≠ c11)); have d7 := Aside0.mk ((zqb0_ : c11 ≠ c0)); have d8 := Aside0.mk ((by rw [hg]; exact Nat.ne_of_lt (blk_lt (g := c10) (o := .cells #[.bool false, .bool false, .bool false, .bool false] 51 (0, 0)) zq26_) : c10 ≠ c11)); have d9 := Aside0.mk ((by rw [hg]; exact Nat.ne_of_gt (blk_lt (g := c10) (o := .cells #[.bool false, .bool false, .bool false, .bool false] 51 (0, 0)) zq26_) : c11 ≠ c10)); clear b0; clear b1; clear HB; have b0 := d0; have b1 := d1; have HB := d2; have b2 := d3; have x2 := d4; have l4 := d5; have f4 := d6; have f5 := d7; have f6 := d8; have f7 := d9; clear d0 d1 d2 d3 d4 d5 d6 d7 d8 d9; clear hb y hg; have N0 := f2.out; have O0 := f3.out; have N1 := f4.out; have O1 := f5.out; obtain ⟨h32, h33, h34, h35, i32, i33, i34, i35⟩ := bz4_ b0.out))
    go_loopg [49] kj1 (fun kq X1 w' => ∃ (a1 : Int) (a2 : Bool) (a3 : Bool) (a4 : Bool) (a5 : Bool), X1 = .int .i64 a1 ∧ Aside0 (impl_ExecOk.l0 kq n0 (n0.length : Int) a1 n0 n1 g0 g1 a2 a3 a4 a5 false false false false = some r) ∧ Aside0 (kq ≤ kj1) ∧ Aside0 (w'.heap[c0]? = some (.cells #[(.slice P0 n0.length J0), (.slice P1 n1.length J1), .int .i64 g0, .int .i64 g1] 30 (0, 0))) ∧ Aside0 (w'.heap[c10]? = some (.cells #[.bool a2, .bool a3, .bool a4, .bool a5] 51 (0, 0))) ∧ Aside0 (w'.heap[c11]? = some (.cells #[.bool false, .bool false, .bool false, .bool false] 51 (0, 0))) ∧ Aside0 (Below w.heap.size w w'))
    case atStart => exact ⟨(0), (false), (false), (false), (false), zq5a_, H', ⟨Nat.le_refl _⟩, ⟨zq25_⟩, ⟨zq26_⟩, ⟨zq27_⟩, ⟨zq69_⟩⟩
    case round =>
     clear H'
     try clear c1
     try clear c2
     try clear p2
     try clear c5
     try clear c6
     try clear c7
     try clear c8
     try clear s0
     try clear s1
     try clear c9
     try clear s2
     try clear s3
     try clear v0
     try clear s4
     try clear s5
     try clear v1
     try clear s6
     try clear s7
     try clear v2
     try clear s8
     try clear s9
     try clear c20
     try clear c21
     try clear c24
     try clear c25
     try clear h0 h1 h2 h3 i0 i1 i2 i3
     try clear h4 h5 h6 h7 i4 i5 i6 i7
     try clear h8 h9 h10 h11 i8 i9 i10 i11
     try clear h12 h13 h14 h15 i12 i13 i14 i15
     try clear h16 h17 h18 h19 i16 i17 i18 i19
     try clear h20 h21 h22 h23 i20 i21 i22 i23
     try clear h24 h25 h26 h27 i24 i25 i26 i27
     try clear h28 h29 h30 h31 i28 i29 i30 i31
     try clear h32 h33 h34 h35 i32 i33 i34 i35
     try clear p2
     obtain ⟨a1, a2, a3, a4, a5, rfl, HA, Z0, b0, b1, b2, HB⟩ := hrel
     cases gk with
     | zero => exact absurd HA.out (by simp [impl_ExecOk.l0])
     | succ k2 =>
      have H := HA.out; clear HA; simp only [impl_ExecOk.l0] at H; replace H := ifc_ H
      rcases H with ⟨c27b0, H⟩ | ⟨c27b0, H⟩
      ·replace H := ifd2_ H; obtain ⟨s10, s11, H⟩ := H; replace H := bs_ H; obtain ⟨e2, B0, H⟩ := H; (try dsimp only at H); replace H := ifB_ H
       rcases H with ⟨rfl, H⟩ | ⟨rfl, H⟩
       ·replace H := ifd2_ H; obtain ⟨s12, s13, H⟩ := H; obtain ⟨bv0, bh0⟩ : ∃ b_ : Bool, b_ = (rdOf false [a2, a3, a4, a5] ((rd_T48 n0 a1).f0)) := ⟨_, rfl⟩; replace H : (if bv0 = true then (some false) else ((impl_in.f ((rd_T48 n0 a1).f1) 0 1000000).bind fun e3 => (if e3 = true then (impl_ExecOk.l0 k2 n0 (n0.length : Int) (wrap64 (a1 + 1)) n0 n1 g0 g1 (ixB ((rd_T48 n0 a1).f0) 0 true a2) (ixB ((rd_T48 n0 a1).f0) 1 true a3) (ixB ((rd_T48 n0 a1).f0) 2 true a4) (ixB ((rd_T48 n0 a1).f0) 3 true a5) false false false false) else (some false)))) = some r := by rw [← bh0] at H; exact H
        have bi0 := Aside0.mk bh0; clear bh0; replace H := ifB_ H
        rcases H with ⟨rfl, H⟩ | ⟨rfl, H⟩
        ·obtain rfl := Option.some.inj H; have u0 : 0 ≤ (a1 : Int) := of_decide_eq_true zq55_; have t0 : a1 < (n0.length : Int) := of_decide_eq_true zq55_; obtain ⟨F0, Q0, q0, q1⟩ := at_T48 an0.out a1 u0 t0; cases Q0; replace q0 := pb_ HB.out q0; replace q1 := pb_ HB.out q1; replace u0 := eq_true u0; replace t0 := eq_true t0
         go_wp2_with (first | ((with_reducible refine gate_dst (N := 6) rfl ?_); (try (refine gate_guard (by rfl) ?_; dsimp only)); refine bxe_ (N := 6) (cs := #[.int .i64 0, .int .i64 0]) (t := 48) ?_; intro c12 hg r2 y hb; have d0 := Aside0.mk (blk_below (g := c0) (o := .cells #[.slice (some F0) n0.length J0, .slice P1 n1.length J1, .int .i64 g0, .int .i64 g1] 30 (0, 0)) zq25_ hb); have d1 := Aside0.mk (blk_below (g := c10) (o := .cells #[.bool a2, .bool a3, .bool a4, .bool a5] 51 (0, 0)) zq26_ hb); have d2 := Aside0.mk (blk_below (g := c11) (o := .cells #[.bool false, .bool false, .bool false, .bool false] 51 (0, 0)) zq27_ hb); have d3 := Aside0.mk (below_step zq69_ hb); have d4 := Aside0.mk (y); have d5 := Aside0.mk ((zqa5_ : w.heap.size ≤ c12)); have d6 := Aside0.mk ((zqa5_ : w.heap.size ≤ c12)); have d7 := Aside0.mk ((zqbf_ : c0 ≠ c12)); have d8 := Aside0.mk ((zqae_ : c12 ≠ c0)); have d9 := Aside0.mk ((zqc5_ : c10 ≠ c12)); have d10 := Aside0.mk ((zqb4_ : c12 ≠ c10)); have d11 := Aside0.mk ((zqc7_ : c11 ≠ c12)); have d12 := Aside0.mk ((zqb6_ : c12 ≠ c11)); clear b0; clear b1; clear b2; clear HB; have b0 := d0; have b1 := d1; have b2 := d2; have HB := d3; have b3 := d4; have x3 := d5; have l5 := d6; have f8 := d7; have f9 := d8; have f10 := d9; have f11 := d10; have f12 := d11; have f13 := d12; clear d0 d1 d2 d3 d4 d5 d6 d7 d8 d9 d10 d11 d12; clear hb y hg; have N2 := f9.out; have O2 := f8.out; have N3 := f11.out; have O3 := f10.out; have N4 := f13.out; have O4 := f12.out; obtain ⟨h36, h37, i36, i37⟩ := bz2_ b3.out) | ((with_reducible refine gate_callee (f := 64) rfl ?_); refine gl_ 55 Try.func64 #[.int .i64 ((rd_T48 n0 a1).f0), .int .i64 0, .int .i64 3] ?_; (with_reducible refine (impl_in.calls ((rd_T48 n0 a1).f0) 0 3 true _ B0.out).mono ?_); rintro e w' ⟨rfl, ⟨nd, rfl⟩⟩; refine ⟨_, rfl, ?_⟩; have N5 := f3.out; have O5 := f2.out; have N6 := f6.out; have O6 := f7.out; have aa0 : 0 ≤ ((rd_T48 n0 a1).f0) := of_decide_eq_true zq55_; have ab0 : ((rd_T48 n0 a1).f0) < 4 := of_decide_eq_true zq55_; have aC0 := ixcellB4 (w := r2) ((rd_T48 n0 a1).f0) aa0 ab0 b1.out; have aS0 := blk_frozen b1.out ((rd_T48 n0 a1).f0).toNat; have aH0 := eq_true aa0; have aI0 := eq_true ab0; (try rw [← bi0.out] at aC0)))
         go_ret
         exact ⟨zq59_, zq68_⟩
        ·replace H := bs_ H; obtain ⟨e3, B1, H⟩ := H; (try dsimp only at H); replace H := ifB_ H
         rcases H with ⟨rfl, H⟩ | ⟨rfl, H⟩
         ·have H' := Aside0.mk H; clear H; have u0 : 0 ≤ (a1 : Int) := of_decide_eq_true zq55_; have t0 : a1 < (n0.length : Int) := of_decide_eq_true zq55_; obtain ⟨F0, Q0, q0, q1⟩ := at_T48 an0.out a1 u0 t0; cases Q0; replace q0 := pb_ HB.out q0; replace q1 := pb_ HB.out q1; replace u0 := eq_true u0; replace t0 := eq_true t0
          go_wp2_with (first | ((with_reducible refine gate_dst (N := 6) rfl ?_); (try (refine gate_guard (by rfl) ?_; dsimp only)); refine bxe_ (N := 6) (cs := #[.int .i64 0, .int .i64 0]) (t := 48) ?_; intro c12 hg r2 y hb; have d0 := Aside0.mk (blk_below (g := c0) (o := .cells #[.slice (some F0) n0.length J0, .slice P1 n1.length J1, .int .i64 g0, .int .i64 g1] 30 (0, 0)) zq25_ hb); have d1 := Aside0.mk (blk_below (g := c10) (o := .cells #[.bool a2, .bool a3, .bool a4, .bool a5] 51 (0, 0)) zq26_ hb); have d2 := Aside0.mk (blk_below (g := c11) (o := .cells #[.bool false, .bool false, .bool false, .bool false] 51 (0, 0)) zq27_ hb); have d3 := Aside0.mk (below_step zq69_ hb); have d4 := Aside0.mk (y); have d5 := Aside0.mk ((zqa5_ : w.heap.size ≤ c12)); have d6 := Aside0.mk ((zqa5_ : w.heap.size ≤ c12)); have d7 := Aside0.mk ((zqbf_ : c0 ≠ c12)); have d8 := Aside0.mk ((zqae_ : c12 ≠ c0)); have d9 := Aside0.mk ((zqc5_ : c10 ≠ c12)); have d10 := Aside0.mk ((zqb4_ : c12 ≠ c10)); have d11 := Aside0.mk ((zqc7_ : c11 ≠ c12)); have d12 := Aside0.mk ((zqb6_ : c12 ≠ c11)); clear b0; clear b1; clear b2; clear HB; have b0 := d0; have b1 := d1; have b2 := d2; have HB := d3; have b3 := d4; have x3 := d5; have l5 := d6; have f8 := d7; have f9 := d8; have f10 := d9; have f11 := d10; have f12 := d11; have f13 := d12; clear d0 d1 d2 d3 d4 d5 d6 d7 d8 d9 d10 d11 d12; clear hb y hg; have N2 := f9.out; have O2 := f8.out; have N3 := f11.out; have O3 := f10.out; have N4 := f13.out; have O4 := f12.out; obtain ⟨h36, h37, i36, i37⟩ := bz2_ b3.out) | ((with_reducible refine gate_callee (f := 64) rfl ?_); refine gl_ 55 Try.func64 #[.int .i64 ((rd_T48 n0 a1).f0), .int .i64 0, .int .i64 3] ?_; (with_reducible refine (impl_in.calls ((rd_T48 n0 a1).f0) 0 3 true _ B0.out).mono ?_); rintro e w' ⟨rfl, ⟨nd, rfl⟩⟩; refine ⟨_, rfl, ?_⟩; have N5 := f3.out; have O5 := f2.out; have N6 := f6.out; have O6 := f7.out; have aa0 : 0 ≤ ((rd_T48 n0 a1).f0) := of_decide_eq_true zq55_; have ab0 : ((rd_T48 n0 a1).f0) < 4 := of_decide_eq_true zq55_; have aC0 := ixcellB4 (w := r2) ((rd_T48 n0 a1).f0) aa0 ab0 b1.out; have aS0 := blk_frozen b1.out ((rd_T48 n0 a1).f0).toNat; have aH0 := eq_true aa0; have aI0 := eq_true ab0; (try rw [← bi0.out] at aC0)) | (go_at_call 64; (with_reducible refine (impl_in.calls ((rd_T48 n0 a1).f1) 0 1000000 true _ B1.out).mono ?_); rintro e w' ⟨rfl, ⟨nd, rfl⟩⟩; (try clear B1); have aa1 : 0 ≤ ((rd_T48 n0 a1).f0) := of_decide_eq_true zq55_; have ab1 : ((rd_T48 n0 a1).f0) < 4 := of_decide_eq_true zq55_; have aC1 := ixcellB4 (w := r2) ((rd_T48 n0 a1).f0) aa1 ab1 b1.out; have aS1 := blk_frozen b1.out ((rd_T48 n0 a1).f0).toNat; have aH1 := eq_true aa1; have aI1 := eq_true ab1; (try rw [← bi0.out] at aC1)) | ((with_reducible refine gate_store (t := 4) (p := 71) rfl ?_); refine store_event (t := 4) (p := 71) (v := ?vo_w55) (w1 := ?wo_w55) ?hg ?ho ?hn ?hr ?_; (case ho => rfl); (case hg => rfl); (case hn => rfl); (case hr => first | (go_simp; done) | (go_simp; rfl)); intro r3 hw; have d0 : Aside0 (r3.heap[c0]? = some (.cells #[.slice (some F0) n0.length J0, .slice P1 n1.length J1, .int .i64 g0, .int .i64 g1] 30 (0, 0))) := ⟨(by rw [hw]; exact (by (with_reducible repeat (first | refine blk_drewN ?_ _ | refine blk_drew ?_ | refine blk_alloc ?_ _)); refine blk_far ?_ f2.out _; (with_reducible repeat (first | refine blk_drewN ?_ _ | refine blk_drew ?_ | refine blk_alloc ?_ _)); refine blk_far ?_ f8.out _; (with_reducible repeat (first | refine blk_drewN ?_ _ | refine blk_drew ?_ | refine blk_alloc ?_ _)); refine blk_far ?_ f8.out _; (with_reducible repeat (first | refine blk_drewN ?_ _ | refine blk_drew ?_ | refine blk_alloc ?_ _)); exact b0.out))⟩; have d1 : Aside0 (r3.heap[c10]? = some (.cells #[.bool (ixB ((rd_T48 n0 a1).f0) 0 true a2), .bool (ixB ((rd_T48 n0 a1).f0) 1 true a3), .bool (ixB ((rd_T48 n0 a1).f0) 2 true a4), .bool (ixB ((rd_T48 n0 a1).f0) 3 true a5)] 51 (0, 0))) := ⟨(by rw [hw]; exact (by (with_reducible repeat (first | refine blk_drewN ?_ _ | refine blk_drew ?_ | refine blk_alloc ?_ _)); refine blk_put (cs := #[.bool a2, .bool a3, .bool a4, .bool a5]) ?_ ((rd_T48 n0 a1).f0).toNat _ (ixputB4 ((rd_T48 n0 a1).f0) true a2 a3 a4 a5 aa1 ab1); (with_reducible repeat (first | refine blk_drewN ?_ _ | refine blk_drew ?_ | refine blk_alloc ?_ _)); refine blk_far ?_ f10.out _; (with_reducible repeat (first | refine blk_drewN ?_ _ | refine blk_drew ?_ | refine blk_alloc ?_ _)); refine blk_far ?_ f10.out _; (with_reducible repeat (first | refine blk_drewN ?_ _ | refine blk_drew ?_ | refine blk_alloc ?_ _)); exact b1.out))⟩; have d2 : Aside0 (r3.heap[c11]? = some (.cells #[.bool false, .bool false, .bool false, .bool false] 51 (0, 0))) := ⟨(by rw [hw]; exact (by (with_reducible repeat (first | refine blk_drewN ?_ _ | refine blk_drew ?_ | refine blk_alloc ?_ _)); refine blk_far ?_ f7.out _; (with_reducible repeat (first | refine blk_drewN ?_ _ | refine blk_drew ?_ | refine blk_alloc ?_ _)); refine blk_far ?_ f12.out _; (with_reducible repeat (first | refine blk_drewN ?_ _ | refine blk_drew ?_ | refine blk_alloc ?_ _)); refine blk_far ?_ f12.out _; (with_reducible repeat (first | refine blk_drewN ?_ _ | refine blk_drew ?_ | refine blk_alloc ?_ _)); exact b2.out))⟩; have d3 : Aside0 (r3.heap[c12]? = some (.cells #[.int .i64 ((rd_T48 n0 a1).f0), .int .i64 ((rd_T48 n0 a1).f1)] 48 (0, 0))) := ⟨(by rw [hw]; exact (by (with_reducible repeat (first | refine blk_drewN ?_ _ | refine blk_drew ?_ | refine blk_alloc ?_ _)); refine blk_far ?_ f11.out _; (with_reducible repeat (first | refine blk_drewN ?_ _ | refine blk_drew ?_ | refine blk_alloc ?_ _)); refine blk_put (cs := #[.int .i64 ((rd_T48 n0 a1).f0), .int .i64 0]) ?_ 1 _ rfl; (with_reducible repeat (first | refine blk_drewN ?_ _ | refine blk_drew ?_ | refine blk_alloc ?_ _)); refine blk_put (cs := #[.int .i64 0, .int .i64 0]) ?_ 0 _ rfl; (with_reducible repeat (first | refine blk_drewN ?_ _ | refine blk_drew ?_ | refine blk_alloc ?_ _)); exact b3.out))⟩; have d4 : Aside0 (Below w.heap.size w r3) := ⟨(by rw [hw]; exact zq68_)⟩; clear hw; clear b0; clear b1; clear b2; clear b3; clear HB; have b0 := d0; have b1 := d1; have b2 := d2; have b3 := d3; have HB := d4; clear d0 d1 d2 d3 d4))
          go_roundg k2
          case measure => have := am0.out; have := Z0.out; omega
          case rel => exact ⟨(wrap64 (a1 + 1)), ((ixB ((rd_T48 n0 a1).f0) 0 true a2)), ((ixB ((rd_T48 n0 a1).f0) 1 true a3)), ((ixB ((rd_T48 n0 a1).f0) 2 true a4)), ((ixB ((rd_T48 n0 a1).f0) 3 true a5)), zq5a_, H', ⟨by have := am0.out; have := Z0.out; omega⟩, ⟨zq25_⟩, ⟨zq26_⟩, ⟨zq27_⟩, ⟨zq68_⟩⟩
         ·obtain rfl := Option.some.inj H; have u0 : 0 ≤ (a1 : Int) := of_decide_eq_true zq55_; have t0 : a1 < (n0.length : Int) := of_decide_eq_true zq55_; obtain ⟨F0, Q0, q0, q1⟩ := at_T48 an0.out a1 u0 t0; cases Q0; replace q0 := pb_ HB.out q0; replace q1 := pb_ HB.out q1; replace u0 := eq_true u0; replace t0 := eq_true t0
          go_wp2_with (first | ((with_reducible refine gate_dst (N := 6) rfl ?_); (try (refine gate_guard (by rfl) ?_; dsimp only)); refine bxe_ (N := 6) (cs := #[.int .i64 0, .int .i64 0]) (t := 48) ?_; intro c12 hg r2 y hb; have d0 := Aside0.mk (blk_below (g := c0) (o := .cells #[.slice (some F0) n0.length J0, .slice P1 n1.length J1, .int .i64 g0, .int .i64 g1] 30 (0, 0)) zq25_ hb); have d1 := Aside0.mk (blk_below (g := c10) (o := .cells #[.bool a2, .bool a3, .bool a4, .bool a5] 51 (0, 0)) zq26_ hb); have d2 := Aside0.mk (blk_below (g := c11) (o := .cells #[.bool false, .bool false, .bool false, .bool false] 51 (0, 0)) zq27_ hb); have d3 := Aside0.mk (below_step zq69_ hb); have d4 := Aside0.mk (y); have d5 := Aside0.mk ((zqa5_ : w.heap.size ≤ c12)); have d6 := Aside0.mk ((zqa5_ : w.heap.size ≤ c12)); have d7 := Aside0.mk ((zqbf_ : c0 ≠ c12)); have d8 := Aside0.mk ((zqae_ : c12 ≠ c0)); have d9 := Aside0.mk ((zqc5_ : c10 ≠ c12)); have d10 := Aside0.mk ((zqb4_ : c12 ≠ c10)); have d11 := Aside0.mk ((zqc7_ : c11 ≠ c12)); have d12 := Aside0.mk ((zqb6_ : c12 ≠ c11)); clear b0; clear b1; clear b2; clear HB; have b0 := d0; have b1 := d1; have b2 := d2; have HB := d3; have b3 := d4; have x3 := d5; have l5 := d6; have f8 := d7; have f9 := d8; have f10 := d9; have f11 := d10; have f12 := d11; have f13 := d12; clear d0 d1 d2 d3 d4 d5 d6 d7 d8 d9 d10 d11 d12; clear hb y hg; have N2 := f9.out; have O2 := f8.out; have N3 := f11.out; have O3 := f10.out; have N4 := f13.out; have O4 := f12.out; obtain ⟨h36, h37, i36, i37⟩ := bz2_ b3.out) | ((with_reducible refine gate_callee (f := 64) rfl ?_); refine gl_ 55 Try.func64 #[.int .i64 ((rd_T48 n0 a1).f0), .int .i64 0, .int .i64 3] ?_; (with_reducible refine (impl_in.calls ((rd_T48 n0 a1).f0) 0 3 true _ B0.out).mono ?_); rintro e w' ⟨rfl, ⟨nd, rfl⟩⟩; refine ⟨_, rfl, ?_⟩; have N5 := f3.out; have O5 := f2.out; have N6 := f6.out; have O6 := f7.out; have aa0 : 0 ≤ ((rd_T48 n0 a1).f0) := of_decide_eq_true zq55_; have ab0 : ((rd_T48 n0 a1).f0) < 4 := of_decide_eq_true zq55_; have aC0 := ixcellB4 (w := r2) ((rd_T48 n0 a1).f0) aa0 ab0 b1.out; have aS0 := blk_frozen b1.out ((rd_T48 n0 a1).f0).toNat; have aH0 := eq_true aa0; have aI0 := eq_true ab0; (try rw [← bi0.out] at aC0)) | (go_at_call 64; (with_reducible refine (impl_in.calls ((rd_T48 n0 a1).f1) 0 1000000 false _ B1.out).mono ?_); rintro e w' ⟨rfl, ⟨nd, rfl⟩⟩; (try clear B1)))
          go_ret
          exact ⟨zq59_, zq68_⟩
       ·obtain rfl := Option.some.inj H; have u0 : 0 ≤ (a1 : Int) := of_decide_eq_true zq55_; have t0 : a1 < (n0.length : Int) := of_decide_eq_true zq55_; obtain ⟨F0, Q0, q0, q1⟩ := at_T48 an0.out a1 u0 t0; cases Q0; replace q0 := pb_ HB.out q0; replace q1 := pb_ HB.out q1; replace u0 := eq_true u0; replace t0 := eq_true t0
        go_wp2_with (first | ((with_reducible refine gate_dst (N := 6) rfl ?_); (try (refine gate_guard (by rfl) ?_; dsimp only)); refine bxe_ (N := 6) (cs := #[.int .i64 0, .int .i64 0]) (t := 48) ?_; intro c12 hg r2 y hb; have d0 := Aside0.mk (blk_below (g := c0) (o := .cells #[.slice (some F0) n0.length J0, .slice P1 n1.length J1, .int .i64 g0, .int .i64 g1] 30 (0, 0)) zq25_ hb); have d1 := Aside0.mk (blk_below (g := c10) (o := .cells #[.bool a2, .bool a3, .bool a4, .bool a5] 51 (0, 0)) zq26_ hb); have d2 := Aside0.mk (blk_below (g := c11) (o := .cells #[.bool false, .bool false, .bool false, .bool false] 51 (0, 0)) zq27_ hb); have d3 := Aside0.mk (below_step zq69_ hb); have d4 := Aside0.mk (y); have d5 := Aside0.mk ((zqa5_ : w.heap.size ≤ c12)); have d6 := Aside0.mk ((zqa5_ : w.heap.size ≤ c12)); have d7 := Aside0.mk ((zqbf_ : c0 ≠ c12)); have d8 := Aside0.mk ((zqae_ : c12 ≠ c0)); have d9 := Aside0.mk ((zqc5_ : c10 ≠ c12)); have d10 := Aside0.mk ((zqb4_ : c12 ≠ c10)); have d11 := Aside0.mk ((zqc7_ : c11 ≠ c12)); have d12 := Aside0.mk ((zqb6_ : c12 ≠ c11)); clear b0; clear b1; clear b2; clear HB; have b0 := d0; have b1 := d1; have b2 := d2; have HB := d3; have b3 := d4; have x3 := d5; have l5 := d6; have f8 := d7; have f9 := d8; have f10 := d9; have f11 := d10; have f12 := d11; have f13 := d12; clear d0 d1 d2 d3 d4 d5 d6 d7 d8 d9 d10 d11 d12; clear hb y hg; have N2 := f9.out; have O2 := f8.out; have N3 := f11.out; have O3 := f10.out; have N4 := f13.out; have O4 := f12.out; obtain ⟨h36, h37, i36, i37⟩ := bz2_ b3.out) | ((with_reducible refine gate_callee (f := 64) rfl ?_); refine gl_ 55 Try.func64 #[.int .i64 ((rd_T48 n0 a1).f0), .int .i64 0, .int .i64 3] ?_; (with_reducible refine (impl_in.calls ((rd_T48 n0 a1).f0) 0 3 false _ B0.out).mono ?_); rintro e w' ⟨rfl, ⟨nd, rfl⟩⟩; refine ⟨_, rfl, ?_⟩))
        go_ret
        exact ⟨zq59_, zq68_⟩
      ·have H' := Aside0.mk H; clear H; have N2 := f2.out; have O2 := f3.out; have N3 := f4.out; have O3 := f5.out; obtain ⟨h36, h37, h38, h39, i36, i37, i38, i39⟩ := bz4_ b0.out
       go_wp2
       go_loopg [76] k2 (fun kq X2 w' => ∃ (a6 : Int) (a7 : Bool) (a8 : Bool) (a9 : Bool) (a10 : Bool), X2 = .int .i64 a6 ∧ Aside0 (impl_ExecOk.l1 kq n1 (n1.length : Int) a6 a7 a8 a9 a10 = some r) ∧ Aside0 (kq ≤ k2) ∧ Aside0 (w'.heap[c0]? = some (.cells #[(.slice P0 n0.length J0), (.slice P1 n1.length J1), .int .i64 g0, .int .i64 g1] 30 (0, 0))) ∧ Aside0 (w'.heap[c10]? = some (.cells #[.bool a2, .bool a3, .bool a4, .bool a5] 51 (0, 0))) ∧ Aside0 (w'.heap[c11]? = some (.cells #[.bool a7, .bool a8, .bool a9, .bool a10] 51 (0, 0))) ∧ Aside0 (Below w.heap.size w w'))
       case atStart => exact ⟨(0), (false), (false), (false), (false), zq5a_, H', ⟨Nat.le_refl _⟩, ⟨zq25_⟩, ⟨zq26_⟩, ⟨zq27_⟩, ⟨zq69_⟩⟩
       case round =>
        clear H'
        try clear c1
        try clear c2
        try clear p2
        try clear c3
        try clear p3
        try clear q3
        try clear hx3
        try clear c4
        try clear p4
        try clear q4
        try clear c5
        try clear p5
        try clear q5
        try clear c6
        try clear p6
        try clear q6
        try clear c7
        try clear c8
        try clear s0
        try clear s1
        try clear c9
        try clear s2
        try clear s3
        try clear v0
        try clear s4
        try clear s5
        try clear v1
        try clear s6
        try clear s7
        try clear v2
        try clear s8
        try clear s9
        try clear c20
        try clear c21
        try clear c24
        try clear c25
        try clear c27
        try clear c27b0
        try clear c28
        try clear s10
        try clear c29
        try clear s11
        try clear c31
        try clear c32
        try clear s12
        try clear c33
        try clear s13
        try clear q34
        try clear c35
        try clear c37
        try clear c38
        try clear c39
        try clear p39
        try clear q39
        try clear hx39
        try clear p41
        try clear q41
        try clear c42
        try clear c43
        try clear c45
        try clear c47
        try clear c48
        try clear c49
        try clear p51
        try clear q51
        try clear c52
        try clear c53
        try clear p54
        try clear q54
        try clear c57
        try clear c58
        try clear c59
        try clear p61
        try clear q61
        try clear c62
        try clear c63
        try clear c64
        try clear p64
        try clear c65
        try clear c66
        try clear c67
        try clear c69
        try clear c70
        try clear h0 h1 h2 h3 i0 i1 i2 i3
        try clear h4 h5 h6 h7 i4 i5 i6 i7
        try clear h8 h9 h10 h11 i8 i9 i10 i11
        try clear h12 h13 h14 h15 i12 i13 i14 i15
        try clear h16 h17 h18 h19 i16 i17 i18 i19
        try clear h20 h21 h22 h23 i20 i21 i22 i23
        try clear h24 h25 h26 h27 i24 i25 i26 i27
        try clear h28 h29 h30 h31 i28 i29 i30 i31
        try clear h32 h33 h34 h35 i32 i33 i34 i35
        try clear h40 h41 i40 i41
        try clear h42 h43 i42 i43
        try clear h44 h45 i44 i45
        try clear h46 h47 i46 i47
        try clear h36 h37 h38 h39 i36 i37 i38 i39
        try clear q0
        try clear q1
        try clear p2
        try clear u0
        try clear t0
        obtain ⟨a6, a7, a8, a9, a10, rfl, HA, Z1, b0, b1, b2, HB⟩ := hrel
        cases gk with
        | zero => exact absurd HA.out (by simp [impl_ExecOk.l1])
        | succ k3 =>
         have H := HA.out; clear HA; simp only [impl_ExecOk.l1] at H; replace H := ifc_ H
         rcases H with ⟨c72b0, H⟩ | ⟨c72b0, H⟩
         ·replace H := ifd2_ H; obtain ⟨s14, s15, H⟩ := H; replace H := bs_ H; obtain ⟨e2, B0, H⟩ := H; (try dsimp only at H); replace H := ifB_ H
          rcases H with ⟨rfl, H⟩ | ⟨rfl, H⟩
          ·replace H := ifd2_ H; obtain ⟨s16, s17, H⟩ := H; obtain ⟨bv0, bh0⟩ : ∃ b_ : Bool, b_ = (rdOf false [a7, a8, a9, a10] ((rd_T36 n1 a6).f0)) := ⟨_, rfl⟩; replace H : (if bv0 = true then (some false) else ((impl_in.f ((rd_T36 n1 a6).f1) (-1000000) 1000000).bind fun e3 => (if e3 = true then (impl_ExecOk.l1 k3 n1 (n1.length : Int) (wrap64 (a6 + 1)) (ixB ((rd_T36 n1 a6).f0) 0 true a7) (ixB ((rd_T36 n1 a6).f0) 1 true a8) (ixB ((rd_T36 n1 a6).f0) 2 true a9) (ixB ((rd_T36 n1 a6).f0) 3 true a10)) else (some false)))) = some r := by rw [← bh0] at H; exact H
           have bi0 := Aside0.mk bh0; clear bh0; replace H := ifB_ H
           rcases H with ⟨rfl, H⟩ | ⟨rfl, H⟩
           ·obtain rfl := Option.some.inj H; have u1 : 0 ≤ (a6 : Int) := of_decide_eq_true zq55_; have t1 : a6 < (n1.length : Int) := of_decide_eq_true zq55_; obtain ⟨F0, Q0, q2, q7⟩ := at_T36 an1.out a6 u1 t1; cases Q0; replace q2 := pb_ HB.out q2; replace q7 := pb_ HB.out q7; replace u1 := eq_true u1; replace t1 := eq_true t1
            go_wp2_with (first | ((with_reducible refine gate_dst (N := 8) rfl ?_); (try (refine gate_guard (by rfl) ?_; dsimp only)); refine bxe_ (N := 8) (cs := #[.int .i64 0, .int .i64 0]) (t := 36) ?_; intro c12 hg r2 y hb; have d0 := Aside0.mk (blk_below (g := c0) (o := .cells #[.slice P0 n0.length J0, .slice (some F0) n1.length J1, .int .i64 g0, .int .i64 g1] 30 (0, 0)) zq25_ hb); have d1 := Aside0.mk (blk_below (g := c10) (o := .cells #[.bool a2, .bool a3, .bool a4, .bool a5] 51 (0, 0)) zq26_ hb); have d2 := Aside0.mk (blk_below (g := c11) (o := .cells #[.bool a7, .bool a8, .bool a9, .bool a10] 51 (0, 0)) zq27_ hb); have d3 := Aside0.mk (below_step zq69_ hb); have d4 := Aside0.mk (y); have d5 := Aside0.mk ((zqa5_ : w.heap.size ≤ c12)); have d6 := Aside0.mk ((zqa5_ : w.heap.size ≤ c12)); have d7 := Aside0.mk ((zqc0_ : c0 ≠ c12)); have d8 := Aside0.mk ((zqaf_ : c12 ≠ c0)); have d9 := Aside0.mk ((zqc5_ : c10 ≠ c12)); have d10 := Aside0.mk ((zqb4_ : c12 ≠ c10)); have d11 := Aside0.mk ((zqc6_ : c11 ≠ c12)); have d12 := Aside0.mk ((zqb5_ : c12 ≠ c11)); clear b0; clear b1; clear b2; clear HB; have b0 := d0; have b1 := d1; have b2 := d2; have HB := d3; have b3 := d4; have x3 := d5; have l5 := d6; have f8 := d7; have f9 := d8; have f10 := d9; have f11 := d10; have f12 := d11; have f13 := d12; clear d0 d1 d2 d3 d4 d5 d6 d7 d8 d9 d10 d11 d12; clear hb y hg; have N4 := f9.out; have O4 := f8.out; have N5 := f11.out; have O5 := f10.out; have N6 := f13.out; have O6 := f12.out; obtain ⟨h48, h49, i48, i49⟩ := bz2_ b3.out) | ((with_reducible refine gate_callee (f := 64) rfl ?_); refine gl_ 82 Try.func64 #[.int .i64 ((rd_T36 n1 a6).f0), .int .i64 0, .int .i64 3] ?_; (with_reducible refine (impl_in.calls ((rd_T36 n1 a6).f0) 0 3 true _ B0.out).mono ?_); rintro e w' ⟨rfl, ⟨nd, rfl⟩⟩; refine ⟨_, rfl, ?_⟩; have N7 := f5.out; have O7 := f4.out; have N8 := f7.out; have O8 := f6.out; have aa0 : 0 ≤ ((rd_T36 n1 a6).f0) := of_decide_eq_true zq55_; have ab0 : ((rd_T36 n1 a6).f0) < 4 := of_decide_eq_true zq55_; have aC0 := ixcellB4 (w := r2) ((rd_T36 n1 a6).f0) aa0 ab0 b2.out; have aS0 := blk_frozen b2.out ((rd_T36 n1 a6).f0).toNat; have aH0 := eq_true aa0; have aI0 := eq_true ab0; (try rw [← bi0.out] at aC0)))
            go_ret
            exact ⟨zq59_, zq68_⟩
           ·replace H := bs_ H; obtain ⟨e3, B1, H⟩ := H; (try dsimp only at H); replace H := ifB_ H
            rcases H with ⟨rfl, H⟩ | ⟨rfl, H⟩
            ·have H' := Aside0.mk H; clear H; have u1 : 0 ≤ (a6 : Int) := of_decide_eq_true zq55_; have t1 : a6 < (n1.length : Int) := of_decide_eq_true zq55_; obtain ⟨F0, Q0, q2, q7⟩ := at_T36 an1.out a6 u1 t1; cases Q0; replace q2 := pb_ HB.out q2; replace q7 := pb_ HB.out q7; replace u1 := eq_true u1; replace t1 := eq_true t1
             go_wp2_with (first | ((with_reducible refine gate_dst (N := 8) rfl ?_); (try (refine gate_guard (by rfl) ?_; dsimp only)); refine bxe_ (N := 8) (cs := #[.int .i64 0, .int .i64 0]) (t := 36) ?_; intro c12 hg r2 y hb; have d0 := Aside0.mk (blk_below (g := c0) (o := .cells #[.slice P0 n0.length J0, .slice (some F0) n1.length J1, .int .i64 g0, .int .i64 g1] 30 (0, 0)) zq25_ hb); have d1 := Aside0.mk (blk_below (g := c10) (o := .cells #[.bool a2, .bool a3, .bool a4, .bool a5] 51 (0, 0)) zq26_ hb); have d2 := Aside0.mk (blk_below (g := c11) (o := .cells #[.bool a7, .bool a8, .bool a9, .bool a10] 51 (0, 0)) zq27_ hb); have d3 := Aside0.mk (below_step zq69_ hb); have d4 := Aside0.mk (y); have d5 := Aside0.mk ((zqa5_ : w.heap.size ≤ c12)); have d6 := Aside0.mk ((zqa5_ : w.heap.size ≤ c12)); have d7 := Aside0.mk ((zqc0_ : c0 ≠ c12)); have d8 := Aside0.mk ((zqaf_ : c12 ≠ c0)); have d9 := Aside0.mk ((zqc5_ : c10 ≠ c12)); have d10 := Aside0.mk ((zqb4_ : c12 ≠ c10)); have d11 := Aside0.mk ((zqc6_ : c11 ≠ c12)); have d12 := Aside0.mk ((zqb5_ : c12 ≠ c11)); clear b0; clear b1; clear b2; clear HB; have b0 := d0; have b1 := d1; have b2 := d2; have HB := d3; have b3 := d4; have x3 := d5; have l5 := d6; have f8 := d7; have f9 := d8; have f10 := d9; have f11 := d10; have f12 := d11; have f13 := d12; clear d0 d1 d2 d3 d4 d5 d6 d7 d8 d9 d10 d11 d12; clear hb y hg; have N4 := f9.out; have O4 := f8.out; have N5 := f11.out; have O5 := f10.out; have N6 := f13.out; have O6 := f12.out; obtain ⟨h48, h49, i48, i49⟩ := bz2_ b3.out) | ((with_reducible refine gate_callee (f := 64) rfl ?_); refine gl_ 82 Try.func64 #[.int .i64 ((rd_T36 n1 a6).f0), .int .i64 0, .int .i64 3] ?_; (with_reducible refine (impl_in.calls ((rd_T36 n1 a6).f0) 0 3 true _ B0.out).mono ?_); rintro e w' ⟨rfl, ⟨nd, rfl⟩⟩; refine ⟨_, rfl, ?_⟩; have N7 := f5.out; have O7 := f4.out; have N8 := f7.out; have O8 := f6.out; have aa0 : 0 ≤ ((rd_T36 n1 a6).f0) := of_decide_eq_true zq55_; have ab0 : ((rd_T36 n1 a6).f0) < 4 := of_decide_eq_true zq55_; have aC0 := ixcellB4 (w := r2) ((rd_T36 n1 a6).f0) aa0 ab0 b2.out; have aS0 := blk_frozen b2.out ((rd_T36 n1 a6).f0).toNat; have aH0 := eq_true aa0; have aI0 := eq_true ab0; (try rw [← bi0.out] at aC0)) | (go_at_call 64; (with_reducible refine (impl_in.calls ((rd_T36 n1 a6).f1) (-1000000) 1000000 true _ B1.out).mono ?_); rintro e w' ⟨rfl, ⟨nd, rfl⟩⟩; (try clear B1); have aa1 : 0 ≤ ((rd_T36 n1 a6).f0) := of_decide_eq_true zq55_; have ab1 : ((rd_T36 n1 a6).f0) < 4 := of_decide_eq_true zq55_; have aC1 := ixcellB4 (w := r2) ((rd_T36 n1 a6).f0) aa1 ab1 b2.out; have aS1 := blk_frozen b2.out ((rd_T36 n1 a6).f0).toNat; have aH1 := eq_true aa1; have aI1 := eq_true ab1; (try rw [← bi0.out] at aC1)) | ((with_reducible refine gate_store (t := 4) (p := 98) rfl ?_); refine store_event (t := 4) (p := 98) (v := ?vo_w100) (w1 := ?wo_w100) ?hg ?ho ?hn ?hr ?_; (case ho => rfl); (case hg => rfl); (case hn => rfl); (case hr => first | (go_simp; done) | (go_simp; rfl)); intro r3 hw; have d0 : Aside0 (r3.heap[c0]? = some (.cells #[.slice P0 n0.length J0, .slice (some F0) n1.length J1, .int .i64 g0, .int .i64 g1] 30 (0, 0))) := ⟨(by rw [hw]; exact (by (with_reducible repeat (first | refine blk_drewN ?_ _ | refine blk_drew ?_ | refine blk_alloc ?_ _)); refine blk_far ?_ f4.out _; (with_reducible repeat (first | refine blk_drewN ?_ _ | refine blk_drew ?_ | refine blk_alloc ?_ _)); refine blk_far ?_ f8.out _; (with_reducible repeat (first | refine blk_drewN ?_ _ | refine blk_drew ?_ | refine blk_alloc ?_ _)); refine blk_far ?_ f8.out _; (with_reducible repeat (first | refine blk_drewN ?_ _ | refine blk_drew ?_ | refine blk_alloc ?_ _)); exact b0.out))⟩; have d1 : Aside0 (r3.heap[c10]? = some (.cells #[.bool a2, .bool a3, .bool a4, .bool a5] 51 (0, 0))) := ⟨(by rw [hw]; exact (by (with_reducible repeat (first | refine blk_drewN ?_ _ | refine blk_drew ?_ | refine blk_alloc ?_ _)); refine blk_far ?_ f6.out _; (with_reducible repeat (first | refine blk_drewN ?_ _ | refine blk_drew ?_ | refine blk_alloc ?_ _)); refine blk_far ?_ f10.out _; (with_reducible repeat (first | refine blk_drewN ?_ _ | refine blk_drew ?_ | refine blk_alloc ?_ _)); refine blk_far ?_ f10.out _; (with_reducible repeat (first | refine blk_drewN ?_ _ | refine blk_drew ?_ | refine blk_alloc ?_ _)); exact b1.out))⟩; have d2 : Aside0 (r3.heap[c11]? = some (.cells #[.bool (ixB ((rd_T36 n1 a6).f0) 0 true a7), .bool (ixB ((rd_T36 n1 a6).f0) 1 true a8), .bool (ixB ((rd_T36 n1 a6).f0) 2 true a9), .bool (ixB ((rd_T36 n1 a6).f0) 3 true a10)] 51 (0, 0))) := ⟨(by rw [hw]; exact (by (with_reducible repeat (first | refine blk_drewN ?_ _ | refine blk_drew ?_ | refine blk_alloc ?_ _)); refine blk_put (cs := #[.bool a7, .bool a8, .bool a9, .bool a10]) ?_ ((rd_T36 n1 a6).f0).toNat _ (ixputB4 ((rd_T36 n1 a6).f0) true a7 a8 a9 a10 aa1 ab1); (with_reducible repeat (first | refine blk_drewN ?_ _ | refine blk_drew ?_ | refine blk_alloc ?_ _)); refine blk_far ?_ f12.out _; (with_reducible repeat (first | refine blk_drewN ?_ _ | refine blk_drew ?_ | refine blk_alloc ?_ _)); refine blk_far ?_ f12.out _; (with_reducible repeat (first | refine blk_drewN ?_ _ | refine blk_drew ?_ | refine blk_alloc ?_ _)); exact b2.out))⟩; have d3 : Aside0 (r3.heap[c12]? = some (.cells #[.int .i64 ((rd_T36 n1 a6).f0), .int .i64 ((rd_T36 n1 a6).f1)] 36 (0, 0))) := ⟨(by rw [hw]; exact (by (with_reducible repeat (first | refine blk_drewN ?_ _ | refine blk_drew ?_ | refine blk_alloc ?_ _)); refine blk_far ?_ f13.out _; (with_reducible repeat (first | refine blk_drewN ?_ _ | refine blk_drew ?_ | refine blk_alloc ?_ _)); refine blk_put (cs := #[.int .i64 ((rd_T36 n1 a6).f0), .int .i64 0]) ?_ 1 _ rfl; (with_reducible repeat (first | refine blk_drewN ?_ _ | refine blk_drew ?_ | refine blk_alloc ?_ _)); refine blk_put (cs := #[.int .i64 0, .int .i64 0]) ?_ 0 _ rfl; (with_reducible repeat (first | refine blk_drewN ?_ _ | refine blk_drew ?_ | refine blk_alloc ?_ _)); exact b3.out))⟩; have d4 : Aside0 (Below w.heap.size w r3) := ⟨(by rw [hw]; exact zq68_)⟩; clear hw; clear b0; clear b1; clear b2; clear b3; clear HB; have b0 := d0; have b1 := d1; have b2 := d2; have b3 := d3; have HB := d4; clear d0 d1 d2 d3 d4))
             go_roundg k3
             case measure => have := am0.out; have := Z0.out; have := Z1.out; omega
             case rel => exact ⟨(wrap64 (a6 + 1)), ((ixB ((rd_T36 n1 a6).f0) 0 true a7)), ((ixB ((rd_T36 n1 a6).f0) 1 true a8)), ((ixB ((rd_T36 n1 a6).f0) 2 true a9)), ((ixB ((rd_T36 n1 a6).f0) 3 true a10)), zq5a_, H', ⟨by have := am0.out; have := Z0.out; have := Z1.out; omega⟩, ⟨zq25_⟩, ⟨zq26_⟩, ⟨zq27_⟩, ⟨zq68_⟩⟩
            ·obtain rfl := Option.some.inj H; have u1 : 0 ≤ (a6 : Int) := of_decide_eq_true zq55_; have t1 : a6 < (n1.length : Int) := of_decide_eq_true zq55_; obtain ⟨F0, Q0, q2, q7⟩ := at_T36 an1.out a6 u1 t1; cases Q0; replace q2 := pb_ HB.out q2; replace q7 := pb_ HB.out q7; replace u1 := eq_true u1; replace t1 := eq_true t1
             go_wp2_with (first | ((with_reducible refine gate_dst (N := 8) rfl ?_); (try (refine gate_guard (by rfl) ?_; dsimp only)); refine bxe_ (N := 8) (cs := #[.int .i64 0, .int .i64 0]) (t := 36) ?_; intro c12 hg r2 y hb; have d0 := Aside0.mk (blk_below (g := c0) (o := .cells #[.slice P0 n0.length J0, .slice (some F0) n1.length J1, .int .i64 g0, .int .i64 g1] 30 (0, 0)) zq25_ hb); have d1 := Aside0.mk (blk_below (g := c10) (o := .cells #[.bool a2, .bool a3, .bool a4, .bool a5] 51 (0, 0)) zq26_ hb); have d2 := Aside0.mk (blk_below (g := c11) (o := .cells #[.bool a7, .bool a8, .bool a9, .bool a10] 51 (0, 0)) zq27_ hb); have d3 := Aside0.mk (below_step zq69_ hb); have d4 := Aside0.mk (y); have d5 := Aside0.mk ((zqa5_ : w.heap.size ≤ c12)); have d6 := Aside0.mk ((zqa5_ : w.heap.size ≤ c12)); have d7 := Aside0.mk ((zqc0_ : c0 ≠ c12)); have d8 := Aside0.mk ((zqaf_ : c12 ≠ c0)); have d9 := Aside0.mk ((zqc5_ : c10 ≠ c12)); have d10 := Aside0.mk ((zqb4_ : c12 ≠ c10)); have d11 := Aside0.mk ((zqc6_ : c11 ≠ c12)); have d12 := Aside0.mk ((zqb5_ : c12 ≠ c11)); clear b0; clear b1; clear b2; clear HB; have b0 := d0; have b1 := d1; have b2 := d2; have HB := d3; have b3 := d4; have x3 := d5; have l5 := d6; have f8 := d7; have f9 := d8; have f10 := d9; have f11 := d10; have f12 := d11; have f13 := d12; clear d0 d1 d2 d3 d4 d5 d6 d7 d8 d9 d10 d11 d12; clear hb y hg; have N4 := f9.out; have O4 := f8.out; have N5 := f11.out; have O5 := f10.out; have N6 := f13.out; have O6 := f12.out; obtain ⟨h48, h49, i48, i49⟩ := bz2_ b3.out) | ((with_reducible refine gate_callee (f := 64) rfl ?_); refine gl_ 82 Try.func64 #[.int .i64 ((rd_T36 n1 a6).f0), .int .i64 0, .int .i64 3] ?_; (with_reducible refine (impl_in.calls ((rd_T36 n1 a6).f0) 0 3 true _ B0.out).mono ?_); rintro e w' ⟨rfl, ⟨nd, rfl⟩⟩; refine ⟨_, rfl, ?_⟩; have N7 := f5.out; have O7 := f4.out; have N8 := f7.out; have O8 := f6.out; have aa0 : 0 ≤ ((rd_T36 n1 a6).f0) := of_decide_eq_true zq55_; have ab0 : ((rd_T36 n1 a6).f0) < 4 := of_decide_eq_true zq55_; have aC0 := ixcellB4 (w := r2) ((rd_T36 n1 a6).f0) aa0 ab0 b2.out; have aS0 := blk_frozen b2.out ((rd_T36 n1 a6).f0).toNat; have aH0 := eq_true aa0; have aI0 := eq_true ab0; (try rw [← bi0.out] at aC0)) | (go_at_call 64; (with_reducible refine (impl_in.calls ((rd_T36 n1 a6).f1) (-1000000) 1000000 false _ B1.out).mono ?_); rintro e w' ⟨rfl, ⟨nd, rfl⟩⟩; (try clear B1)))
             go_ret
             exact ⟨zq59_, zq68_⟩
          ·obtain rfl := Option.some.inj H; have u1 : 0 ≤ (a6 : Int) := of_decide_eq_true zq55_; have t1 : a6 < (n1.length : Int) := of_decide_eq_true zq55_; obtain ⟨F0, Q0, q2, q7⟩ := at_T36 an1.out a6 u1 t1; cases Q0; replace q2 := pb_ HB.out q2; replace q7 := pb_ HB.out q7; replace u1 := eq_true u1; replace t1 := eq_true t1
           go_wp2_with (first | ((with_reducible refine gate_dst (N := 8) rfl ?_); (try (refine gate_guard (by rfl) ?_; dsimp only)); refine bxe_ (N := 8) (cs := #[.int .i64 0, .int .i64 0]) (t := 36) ?_; intro c12 hg r2 y hb; have d0 := Aside0.mk (blk_below (g := c0) (o := .cells #[.slice P0 n0.length J0, .slice (some F0) n1.length J1, .int .i64 g0, .int .i64 g1] 30 (0, 0)) zq25_ hb); have d1 := Aside0.mk (blk_below (g := c10) (o := .cells #[.bool a2, .bool a3, .bool a4, .bool a5] 51 (0, 0)) zq26_ hb); have d2 := Aside0.mk (blk_below (g := c11) (o := .cells #[.bool a7, .bool a8, .bool a9, .bool a10] 51 (0, 0)) zq27_ hb); have d3 := Aside0.mk (below_step zq69_ hb); have d4 := Aside0.mk (y); have d5 := Aside0.mk ((zqa5_ : w.heap.size ≤ c12)); have d6 := Aside0.mk ((zqa5_ : w.heap.size ≤ c12)); have d7 := Aside0.mk ((zqc0_ : c0 ≠ c12)); have d8 := Aside0.mk ((zqaf_ : c12 ≠ c0)); have d9 := Aside0.mk ((zqc5_ : c10 ≠ c12)); have d10 := Aside0.mk ((zqb4_ : c12 ≠ c10)); have d11 := Aside0.mk ((zqc6_ : c11 ≠ c12)); have d12 := Aside0.mk ((zqb5_ : c12 ≠ c11)); clear b0; clear b1; clear b2; clear HB; have b0 := d0; have b1 := d1; have b2 := d2; have HB := d3; have b3 := d4; have x3 := d5; have l5 := d6; have f8 := d7; have f9 := d8; have f10 := d9; have f11 := d10; have f12 := d11; have f13 := d12; clear d0 d1 d2 d3 d4 d5 d6 d7 d8 d9 d10 d11 d12; clear hb y hg; have N4 := f9.out; have O4 := f8.out; have N5 := f11.out; have O5 := f10.out; have N6 := f13.out; have O6 := f12.out; obtain ⟨h48, h49, i48, i49⟩ := bz2_ b3.out) | ((with_reducible refine gate_callee (f := 64) rfl ?_); refine gl_ 82 Try.func64 #[.int .i64 ((rd_T36 n1 a6).f0), .int .i64 0, .int .i64 3] ?_; (with_reducible refine (impl_in.calls ((rd_T36 n1 a6).f0) 0 3 false _ B0.out).mono ?_); rintro e w' ⟨rfl, ⟨nd, rfl⟩⟩; refine ⟨_, rfl, ?_⟩))
           go_ret
           exact ⟨zq59_, zq68_⟩
         ·obtain rfl := Option.some.inj H
          go_wp2
          go_ret
          exact ⟨zq59_, zq69_⟩

end Go.Proofs.Ytgdafcakefnpdaa.PFnExec

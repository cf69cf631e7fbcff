-- Laid by this session's program out of the translation (gen.sh).
import Derived.Test.YtgdafcakefnpdaaPFnSerialOnex0
import Derived.Test.YtgdafcakefnpdaaPFnSerialOnex2
namespace Go.Proofs.Ytgdafcakefnpdaa.PFnSerialOne
open Go.RowKit Go.Proofs.YtgdafcakefnpdaaW.PrintWords Go.Proofs.YtgdafcakefnpdaaW.PrintLast Go.Proofs.YtgdafcakefnpdaaW.PrintMore
attribute [local go_sem] max2_int min2_int max_two min_two max_three min_three max_four min_four   -- for this text's walks alone
set_option linter.unusedVariables false
set_option linter.unusedSimpArgs false

/-! ### impl_ExecOk: function 20 -/
mutual
def impl_ExecOk.j0 : Nat → Bool → List (S48) → List (S36) → Int → Int → Option (Bool)
 | 0, _, _, _, _, _ => none
 | k + 1, x45, x164000, x164001, x164002, x164003 => if x45 = true then (some false) else (impl_ExecOk.l0 k x164000 (x164000.length : Int) 0 x164000 x164001 x164002 x164003 false false false false false false false false)
def impl_ExecOk.l0 : Nat → List (S48) → Int → Int → List (S48) → List (S36) → Int → Int → Bool → Bool → Bool → Bool → Bool → Bool → Bool → Bool → Option (Bool)
 | 0, _, _, _, _, _, _, _, _, _, _, _, _, _, _, _ => none
 | k + 1, x47, x48, x49, x164000, x164001, x164002, x164003, x167000, x167001, x167002, x167003, x168000, x168001, x168002, x168003 => if x49 < x48 then (if 0 ≤ x49 then (if x49 < (x47.length : Int) then ((impl_in.f ((rd_T48 x47 x49).f0) 0 3).bind fun t170 => (if t170 = true then (if 0 ≤ ((rd_T48 x47 x49).f0) then (if ((rd_T48 x47 x49).f0) < 4 then (if rdOf false [x167000, x167001, x167002, x167003] ((rd_T48 x47 x49).f0) = true then (some false) else ((impl_in.f ((rd_T48 x47 x49).f1) 0 1000000).bind fun t171 => (if t171 = true then (impl_ExecOk.l0 k x47 x48 (wrap64 (x49 + 1)) x164000 x164001 x164002 x164003 (ixB ((rd_T48 x47 x49).f0) 0 true x167000) (ixB ((rd_T48 x47 x49).f0) 1 true x167001) (ixB ((rd_T48 x47 x49).f0) 2 true x167002) (ixB ((rd_T48 x47 x49).f0) 3 true x167003) x168000 x168001 x168002 x168003) else (some false)))) else (none)) else (none)) else (some false))) else (none)) else (none)) else (impl_ExecOk.l1 k x164001 (x164001.length : Int) 0 x168000 x168001 x168002 x168003)
def impl_ExecOk.l1 : Nat → List (S36) → Int → Int → Bool → Bool → Bool → Bool → Option (Bool)
 | 0, _, _, _, _, _, _, _ => none
 | k + 1, x74, x75, x76, x168000, x168001, x168002, x168003 => if x76 < x75 then (if 0 ≤ x76 then (if x76 < (x74.length : Int) then ((impl_in.f ((rd_T36 x74 x76).f0) 0 3).bind fun t174 => (if t174 = true then (if 0 ≤ ((rd_T36 x74 x76).f0) then (if ((rd_T36 x74 x76).f0) < 4 then (if rdOf false [x168000, x168001, x168002, x168003] ((rd_T36 x74 x76).f0) = true then (some false) else ((impl_in.f ((rd_T36 x74 x76).f1) (-1000000) 1000000).bind fun t175 => (if t175 = true then (impl_ExecOk.l1 k x74 x75 (wrap64 (x76 + 1)) (ixB ((rd_T36 x74 x76).f0) 0 true x168000) (ixB ((rd_T36 x74 x76).f0) 1 true x168001) (ixB ((rd_T36 x74 x76).f0) 2 true x168002) (ixB ((rd_T36 x74 x76).f0) 3 true x168003)) else (some false)))) else (none)) else (none)) else (some false))) else (none)) else (none)) else (some true)
end
def impl_ExecOk.f (k : Nat) (l0_0 : List (S48)) (l0_1 : List (S36)) (a0_2 : Int) (a0_3 : Int) : Option (Bool) := (impl_in.f a0_3 0 3).bind fun t164 => (if t164 = true then ((impl_in.f a0_2 (-1000000) 1000000).bind fun t165 => (if t165 = true then (if a0_3 = 0 then (if a0_3 = 3 then (impl_ExecOk.j0 k (decide ((l0_0.length : Int) > 0)) l0_0 l0_1 a0_2 a0_3) else (impl_ExecOk.j0 k false l0_0 l0_1 a0_2 a0_3)) else (if a0_2 = 0 then (if (l0_1.length : Int) > 0 then (impl_ExecOk.j0 k true l0_0 l0_1 a0_2 a0_3) else (if a0_3 = 3 then (impl_ExecOk.j0 k (decide ((l0_0.length : Int) > 0)) l0_0 l0_1 a0_2 a0_3) else (impl_ExecOk.j0 k false l0_0 l0_1 a0_2 a0_3))) else (impl_ExecOk.j0 k true l0_0 l0_1 a0_2 a0_3))) else (impl_ExecOk.j0 k true l0_0 l0_1 a0_2 a0_3))) else (impl_ExecOk.j0 k true l0_0 l0_1 a0_2 a0_3))
theorem impl_ExecOk.mono_l : ∀ k, (∀ y0 y1 y2 y3 y4, LeO (impl_ExecOk.j0 k y0 y1 y2 y3 y4) (impl_ExecOk.j0 (k + 1) y0 y1 y2 y3 y4)) ∧ (∀ y0 y1 y2 y3 y4 y5 y6 y7 y8 y9 K0 K1 K2 K3 K4, LeO (impl_ExecOk.l0 k y0 y1 y2 y3 y4 y5 y6 y7 y8 y9 K0 K1 K2 K3 K4) (impl_ExecOk.l0 (k + 1) y0 y1 y2 y3 y4 y5 y6 y7 y8 y9 K0 K1 K2 K3 K4)) ∧ (∀ y0 y1 y2 y3 y4 y5 y6, LeO (impl_ExecOk.l1 k y0 y1 y2 y3 y4 y5 y6) (impl_ExecOk.l1 (k + 1) y0 y1 y2 y3 y4 y5 y6))
 | 0 => ⟨fun _ _ _ _ _ r h => by simp [impl_ExecOk.j0] at h, fun _ _ _ _ _ _ _ _ _ _ _ _ _ _ _ r h => by simp [impl_ExecOk.l0] at h, fun _ _ _ _ _ _ _ r h => by simp [impl_ExecOk.l1] at h⟩
 | k + 1 => by
  obtain ⟨G0, G1, G2⟩ := impl_ExecOk.mono_l k
  refine ⟨?_, ?_, ?_⟩
  ·intro y0 y1 y2 y3 y4
   unfold impl_ExecOk.j0
   repeat' first
   | (with_reducible exact G0 _ _ _ _ _)
   | (with_reducible exact G1 _ _ _ _ _ _ _ _ _ _ _ _ _ _ _)
   | (with_reducible exact G2 _ _ _ _ _ _ _)
   | (with_reducible exact LeO.refl _)
   | (with_reducible exact LeO.none _)
   | (with_reducible refine LeO.ite ?_ ?_)
   | (with_reducible refine LeO.bind ?_ (fun _ => ?_))
   | exact G0 _ _ _ _ _
   | exact G1 _ _ _ _ _ _ _ _ _ _ _ _ _ _ _
   | exact G2 _ _ _ _ _ _ _
   | exact LeO.none _
   | refine LeO.ite ?_ ?_
   | refine LeO.bind ?_ (fun _ => ?_)
  ·intro y0 y1 y2 y3 y4 y5 y6 y7 y8 y9 K0 K1 K2 K3 K4
   unfold impl_ExecOk.l0
   repeat' first
   | (with_reducible exact G0 _ _ _ _ _)
   | (with_reducible exact G1 _ _ _ _ _ _ _ _ _ _ _ _ _ _ _)
   | (with_reducible exact G2 _ _ _ _ _ _ _)
   | (with_reducible exact LeO.refl _)
   | (with_reducible exact LeO.none _)
   | (with_reducible refine LeO.ite ?_ ?_)
   | (with_reducible refine LeO.bind ?_ (fun _ => ?_))
   | exact G0 _ _ _ _ _
   | exact G1 _ _ _ _ _ _ _ _ _ _ _ _ _ _ _
   | exact G2 _ _ _ _ _ _ _
   | exact LeO.none _
   | refine LeO.ite ?_ ?_
   | refine LeO.bind ?_ (fun _ => ?_)
  ·intro y0 y1 y2 y3 y4 y5 y6
   unfold impl_ExecOk.l1
   repeat' first
   | (with_reducible exact G0 _ _ _ _ _)
   | (with_reducible exact G1 _ _ _ _ _ _ _ _ _ _ _ _ _ _ _)
   | (with_reducible exact G2 _ _ _ _ _ _ _)
   | (with_reducible exact LeO.refl _)
   | (with_reducible exact LeO.none _)
   | (with_reducible refine LeO.ite ?_ ?_)
   | (with_reducible refine LeO.bind ?_ (fun _ => ?_))
   | exact G0 _ _ _ _ _
   | exact G1 _ _ _ _ _ _ _ _ _ _ _ _ _ _ _
   | exact G2 _ _ _ _ _ _ _
   | exact LeO.none _
   | refine LeO.ite ?_ ?_
   | refine LeO.bind ?_ (fun _ => ?_)
theorem impl_ExecOk.mono : ∀ a0 a1 a2 a3 k, LeO (impl_ExecOk.f k a0 a1 a2 a3) (impl_ExecOk.f (k + 1) a0 a1 a2 a3) := by
 intro a0 a1 a2 a3 k
 obtain ⟨G0, G1, G2⟩ := impl_ExecOk.mono_l k
 unfold impl_ExecOk.f
 repeat' first
   | (with_reducible exact G0 _ _ _ _ _)
   | (with_reducible exact G1 _ _ _ _ _ _ _ _ _ _ _ _ _ _ _)
   | (with_reducible exact G2 _ _ _ _ _ _ _)
   | (with_reducible exact LeO.refl _)
   | (with_reducible exact LeO.none _)
   | (with_reducible refine LeO.ite ?_ ?_)
   | (with_reducible refine LeO.bind ?_ (fun _ => ?_))
   | exact G0 _ _ _ _ _
   | exact G1 _ _ _ _ _ _ _ _ _ _ _ _ _ _ _
   | exact G2 _ _ _ _ _ _ _
   | exact LeO.none _
   | refine LeO.ite ?_ ?_
   | refine LeO.bind ?_ (fun _ => ?_)
set_option maxHeartbeats 8000000 in
set_option maxRecDepth 100000 in
theorem impl_ExecOk.calls (k : Nat) (Y0 : Option Addr) (R0 : Nat) (o0 : List (S48)) (Y1 : Option Addr) (R1 : Nat) (o1 : List (S36)) (h0 : Int) (h1 : Int) (r : Bool) (w : World) (aE0 : Kd.C k48 w Y0 o0.length o0) (aF0 : o0.length ≤ R0) (aE1 : Kd.C k36 w Y1 o1.length o1) (aF1 : o1.length ≤ R1) (h : impl_ExecOk.f k o0 o1 h0 h1 = some r) :
  Calls Try.prog 20 #[.agg #[.slice Y0 o0.length R0, .slice Y1 o1.length R1, .int .i64 h0, .int .i64 h1]] w fun e w' => e = .returned (.bool r) ∧ Below w.heap.size w w' := by
 have aq0 := Try.underlying30; have aq1 := Try.underlying51; have aq2 := Try.underlying48; have aq3 := Try.underlying36; have aN0 := Aside0.mk aE0; have bl0 := Aside0.mk aF0; clear aE0 aF0; have aN1 := Aside0.mk aE1; have bl1 := Aside0.mk aF1; clear aE1 aF1; have HB := Aside0.mk (Below.refl w.heap.size w); have H : ((impl_in.f h1 0 3).bind fun e0 => (if e0 = true then ((impl_in.f h0 (-1000000) 1000000).bind fun e1 => (if e1 = true then (if h1 = 0 then (if h1 = 3 then (impl_ExecOk.j0 k (decide ((o0.length : Int) > 0)) o0 o1 h0 h1) else (impl_ExecOk.j0 k false o0 o1 h0 h1)) else (if h0 = 0 then (if (o1.length : Int) > 0 then (impl_ExecOk.j0 k true o0 o1 h0 h1) else (if h1 = 3 then (impl_ExecOk.j0 k (decide ((o0.length : Int) > 0)) o0 o1 h0 h1) else (impl_ExecOk.j0 k false o0 o1 h0 h1))) else (impl_ExecOk.j0 k true o0 o1 h0 h1))) else (impl_ExecOk.j0 k true o0 o1 h0 h1))) else (impl_ExecOk.j0 k true o0 o1 h0 h1))) = some r := h; clear h; have aa0 := Aside0.mk H; clear H
 go_enter Try.func20, Try.ntmps20
 go_upto_region 1 with (first | ((with_reducible refine gate_dst (N := 1) rfl ?_); (try (refine gate_guard (by rfl) ?_; dsimp only)); refine bxe_ (N := 1) (cs := #[.slice Y0 o0.length R0, .slice Y1 o1.length R1, .int .i64 h0, .int .i64 h1]) (t := 30) ?_; intro d0 hg w3 C_ hb; have n_ := A4_ (below_step zq74_ hb) (C_) ((zqa9_ : w.heap.size ≤ d0)) ((zqa9_ : w.heap.size ≤ d0)); clear HB; obtain ⟨HB, c0, B0, n0⟩ := n_; clear hb C_ hg))
 (try simp only [Act.put, List.setIfInBounds_toArray, List.set_cons_zero, List.set_cons_succ])
 go_cut [45] (fun L0 wc => ∃ (kq : Nat) (a0 : Bool), L0 = .bool a0 ∧ Aside0 (impl_ExecOk.j0 kq a0 o0 o1 h0 h1 = some r) ∧ Aside0 (kq ≤ k) ∧ Aside0 (wc.heap[d0]? = some (.cells #[(.slice Y0 o0.length R0), (.slice Y1 o1.length R1), .int .i64 h0, .int .i64 h1] 30 (0, 0))) ∧ Aside0 (Below w.heap.size w wc))
 case first =>
  have H := aa0.out; clear aa0; replace H := bs_ H; obtain ⟨e0, A4, H⟩ := H; (try dsimp only at H); replace H := ifB_ H
  rcases H with ⟨rfl, H⟩ | ⟨rfl, H⟩
  ·replace H := bs_ H; obtain ⟨e1, A6, H⟩ := H; (try dsimp only at H); replace H := ifB_ H
   rcases H with ⟨rfl, H⟩ | ⟨rfl, H⟩
   ·by_cases c8 : h1 = 0
    ·rw [if_pos c8] at H; have r0 : (h1 == 0) = true := beq_iff_eq.mpr c8; have r1 : (h1 != 0) = false := bne_eq_false_iff_eq.mpr c8; clear c8; (first | rw [r0] | (simp only [i64_w, i32_w]; rw [r0]) | skip); by_cases c9 : h1 = 3
     ·rw [if_pos c9] at H; have r2 : (h1 == 3) = true := beq_iff_eq.mpr c9; have r3 : (h1 != 3) = false := bne_eq_false_iff_eq.mpr c9; clear c9; have H' := Aside0.mk H; clear H; obtain ⟨j1, j2, j3, j4, k0, k1, k4, k5⟩ := bz4_ c0.out
      go_wp2_with (first | ((with_reducible refine gate_callee (f := 64) rfl ?_); refine gl_ 11 Try.func64 #[.int .i64 h1, .int .i64 0, .int .i64 3] ?_; (with_reducible refine (impl_in.calls h1 0 3 true _ A4.out).mono ?_); rintro e w' ⟨rfl, ⟨nd, rfl⟩⟩; refine ⟨_, rfl, ?_⟩) | (go_at_call 64; (with_reducible refine (impl_in.calls h0 (-1000000) 1000000 true _ A6.out).mono ?_); rintro e w' ⟨rfl, ⟨nd, rfl⟩⟩; (try clear A6)))
      go_meet
      case rel => exact ⟨_, (decide ((o0.length : Int) > 0)), zq69_, H', ⟨zq67_⟩, ⟨zq28_⟩, ⟨zq73_⟩⟩
     ·rw [if_neg c9] at H; have r2 : (h1 == 3) = false := beq_eq_false_iff_ne.mpr c9; have r3 : (h1 != 3) = true := bne_iff_ne.mpr c9; have H' := Aside0.mk H; clear H; obtain ⟨j1, j2, j3, j4, k0, k1, k4, k5⟩ := bz4_ c0.out
      go_wp2_with (first | ((with_reducible refine gate_callee (f := 64) rfl ?_); refine gl_ 11 Try.func64 #[.int .i64 h1, .int .i64 0, .int .i64 3] ?_; (with_reducible refine (impl_in.calls h1 0 3 true _ A4.out).mono ?_); rintro e w' ⟨rfl, ⟨nd, rfl⟩⟩; refine ⟨_, rfl, ?_⟩) | (go_at_call 64; (with_reducible refine (impl_in.calls h0 (-1000000) 1000000 true _ A6.out).mono ?_); rintro e w' ⟨rfl, ⟨nd, rfl⟩⟩; (try clear A6)))
      go_meet
      case rel => exact ⟨_, (false), zq69_, H', ⟨zq67_⟩, ⟨zq28_⟩, ⟨zq73_⟩⟩
    ·rw [if_neg c8] at H; have r0 : (h1 == 0) = false := beq_eq_false_iff_ne.mpr c8; have r1 : (h1 != 0) = true := bne_iff_ne.mpr c8; (first | rw [r0] | (simp only [i64_w, i32_w]; rw [r0]) | skip); by_cases u0 : h0 = 0
     ·rw [if_pos u0] at H; have r2 : (h0 == 0) = true := beq_iff_eq.mpr u0; have r3 : (h0 != 0) = false := bne_eq_false_iff_eq.mpr u0; clear u0; by_cases u1 : (o1.length : Int) > 0
      ·rw [if_pos u1] at H; have r4 : decide (0 < (o1.length : Int)) = true := decide_eq_true u1; have r5 : decide (0 < o1.length) = true := decide_eq_true (by omega); clear u1; have H' := Aside0.mk H; clear H; obtain ⟨j1, j2, j3, j4, k0, k1, k4, k5⟩ := bz4_ c0.out
       go_wp2_with (first | ((with_reducible refine gate_callee (f := 64) rfl ?_); refine gl_ 11 Try.func64 #[.int .i64 h1, .int .i64 0, .int .i64 3] ?_; (with_reducible refine (impl_in.calls h1 0 3 true _ A4.out).mono ?_); rintro e w' ⟨rfl, ⟨nd, rfl⟩⟩; refine ⟨_, rfl, ?_⟩) | (go_at_call 64; (with_reducible refine (impl_in.calls h0 (-1000000) 1000000 true _ A6.out).mono ?_); rintro e w' ⟨rfl, ⟨nd, rfl⟩⟩; (try clear A6)))
       go_meet
       case rel => exact ⟨_, (true), zq69_, H', ⟨zq67_⟩, ⟨zq28_⟩, ⟨zq73_⟩⟩
      ·rw [if_neg u1] at H; have r4 : decide (0 < (o1.length : Int)) = false := decide_eq_false u1; have r5 : decide (0 < o1.length) = false := decide_eq_false (by omega); clear u1; by_cases u2 : h1 = 3
       ·rw [if_pos u2] at H; have r6 : (h1 == 3) = true := beq_iff_eq.mpr u2; have r7 : (h1 != 3) = false := bne_eq_false_iff_eq.mpr u2; clear u2; have H' := Aside0.mk H; clear H; obtain ⟨j1, j2, j3, j4, k0, k1, k4, k5⟩ := bz4_ c0.out
        go_wp2_with (first | ((with_reducible refine gate_callee (f := 64) rfl ?_); refine gl_ 11 Try.func64 #[.int .i64 h1, .int .i64 0, .int .i64 3] ?_; (with_reducible refine (impl_in.calls h1 0 3 true _ A4.out).mono ?_); rintro e w' ⟨rfl, ⟨nd, rfl⟩⟩; refine ⟨_, rfl, ?_⟩) | (go_at_call 64; (with_reducible refine (impl_in.calls h0 (-1000000) 1000000 true _ A6.out).mono ?_); rintro e w' ⟨rfl, ⟨nd, rfl⟩⟩; (try clear A6)))
        go_meet
        case rel => exact ⟨_, (decide ((o0.length : Int) > 0)), zq69_, H', ⟨zq67_⟩, ⟨zq28_⟩, ⟨zq73_⟩⟩
       ·rw [if_neg u2] at H; have r6 : (h1 == 3) = false := beq_eq_false_iff_ne.mpr u2; have r7 : (h1 != 3) = true := bne_iff_ne.mpr u2; have H' := Aside0.mk H; clear H; obtain ⟨j1, j2, j3, j4, k0, k1, k4, k5⟩ := bz4_ c0.out
        go_wp2_with (first | ((with_reducible refine gate_callee (f := 64) rfl ?_); refine gl_ 11 Try.func64 #[.int .i64 h1, .int .i64 0, .int .i64 3] ?_; (with_reducible refine (impl_in.calls h1 0 3 true _ A4.out).mono ?_); rintro e w' ⟨rfl, ⟨nd, rfl⟩⟩; refine ⟨_, rfl, ?_⟩) | (go_at_call 64; (with_reducible refine (impl_in.calls h0 (-1000000) 1000000 true _ A6.out).mono ?_); rintro e w' ⟨rfl, ⟨nd, rfl⟩⟩; (try clear A6)))
        go_meet
        case rel => exact ⟨_, (false), zq69_, H', ⟨zq67_⟩, ⟨zq28_⟩, ⟨zq73_⟩⟩
     ·rw [if_neg u0] at H; have r2 : (h0 == 0) = false := beq_eq_false_iff_ne.mpr u0; have r3 : (h0 != 0) = true := bne_iff_ne.mpr u0; have H' := Aside0.mk H; clear H; obtain ⟨j1, j2, j3, j4, k0, k1, k4, k5⟩ := bz4_ c0.out
      go_wp2_with (first | ((with_reducible refine gate_callee (f := 64) rfl ?_); refine gl_ 11 Try.func64 #[.int .i64 h1, .int .i64 0, .int .i64 3] ?_; (with_reducible refine (impl_in.calls h1 0 3 true _ A4.out).mono ?_); rintro e w' ⟨rfl, ⟨nd, rfl⟩⟩; refine ⟨_, rfl, ?_⟩) | (go_at_call 64; (with_reducible refine (impl_in.calls h0 (-1000000) 1000000 true _ A6.out).mono ?_); rintro e w' ⟨rfl, ⟨nd, rfl⟩⟩; (try clear A6)))
      go_meet
      case rel => exact ⟨_, (true), zq69_, H', ⟨zq67_⟩, ⟨zq28_⟩, ⟨zq73_⟩⟩
   ·have H' := Aside0.mk H; clear H; obtain ⟨j1, j2, j3, j4, k0, k1, k4, k5⟩ := bz4_ c0.out
    go_wp2_with (first | ((with_reducible refine gate_callee (f := 64) rfl ?_); refine gl_ 11 Try.func64 #[.int .i64 h1, .int .i64 0, .int .i64 3] ?_; (with_reducible refine (impl_in.calls h1 0 3 true _ A4.out).mono ?_); rintro e w' ⟨rfl, ⟨nd, rfl⟩⟩; refine ⟨_, rfl, ?_⟩) | (go_at_call 64; (with_reducible refine (impl_in.calls h0 (-1000000) 1000000 false _ A6.out).mono ?_); rintro e w' ⟨rfl, ⟨nd, rfl⟩⟩; (try clear A6)))
    go_meet
    case rel => exact ⟨_, (true), zq69_, H', ⟨zq67_⟩, ⟨zq28_⟩, ⟨zq73_⟩⟩
  ·have H' := Aside0.mk H; clear H; obtain ⟨j1, j2, j3, j4, k0, k1, k4, k5⟩ := bz4_ c0.out
   go_wp2_with (first | ((with_reducible refine gate_callee (f := 64) rfl ?_); refine gl_ 11 Try.func64 #[.int .i64 h1, .int .i64 0, .int .i64 3] ?_; (with_reducible refine (impl_in.calls h1 0 3 false _ A4.out).mono ?_); rintro e w' ⟨rfl, ⟨nd, rfl⟩⟩; refine ⟨_, rfl, ?_⟩))
   go_meet
   case rel => exact ⟨_, (true), zq69_, H', ⟨zq67_⟩, ⟨zq28_⟩, ⟨zq73_⟩⟩
 case rest =>
  clear aa0
  try clear c1
  try clear c2
  try clear p2
  try clear c5
  try clear c6
  try clear c7
  try clear c8
  try clear r0
  try clear r1
  try clear c9
  try clear r2
  try clear r3
  try clear u0
  try clear r4
  try clear r5
  try clear u1
  try clear r6
  try clear r7
  try clear u2
  try clear r8
  try clear r9
  try clear c20
  try clear j1 j2 j3 j4 k0 k1 k4 k5
  try clear j5 j6 j7 j8 k6 k7 k8 k9
  try clear j9 j10 j11 j12 k10 k11 k12 k13
  try clear j13 j14 j15 j16 k14 k15 k16 k17
  try clear j17 j18 j19 j20 k18 k19 k20 k21
  try clear j21 j22 j23 j24 k22 k23 k24 k25
  try clear j25 j26 j27 j28 k26 k27 k28 k29
  try clear j29 j30 j31 j32 k30 k31 k32 k33
  obtain ⟨kq, a0, rfl, HA, an0, c0, HB⟩ := hcut
  cases kq with
  | zero => exact absurd HA.out (by simp [impl_ExecOk.j0])
  | succ kj1 =>
   have H := HA.out; clear HA; simp only [impl_ExecOk.j0] at H; replace H := ifB_ H
   rcases H with ⟨rfl, H⟩ | ⟨rfl, H⟩
   ·obtain rfl := Option.some.inj H
    go_wp2
    go_ret
    exact ⟨zq68_, zq73_⟩
   ·have H' := Aside0.mk H; clear H
    go_wp2_with (first | ((with_reducible refine gate_dst (N := 3) rfl ?_); (try (refine gate_guard (by rfl) ?_; dsimp only)); refine bxe_ (N := 3) (cs := #[.bool false, .bool false, .bool false, .bool false]) (t := 51) ?_; intro d1 hg q0 C_ hb; have n_ := A7_ (blk_below (g := d0) (o := .cells #[.slice Y0 o0.length R0, .slice Y1 o1.length R1, .int .i64 h0, .int .i64 h1] 30 (0, 0)) zq28_ hb) (below_step zq73_ hb) (C_) ((zqa8_ : w.heap.size ≤ d1)) ((zqa8_ : w.heap.size ≤ d1)) ((zqc2_ : d0 ≠ d1)) ((zqb2_ : d1 ≠ d0)); clear c0 HB; obtain ⟨c0, HB, c10, B1, n1, g0, g1⟩ := n_; clear hb C_ hg) | ((with_reducible refine gate_dst (N := 4) rfl ?_); (try (refine gate_guard (by rfl) ?_; dsimp only)); refine bxe_ (N := 4) (cs := #[.bool false, .bool false, .bool false, .bool false]) (t := 51) ?_; intro d2 hg q2 C_ hb; have b0 := Aside0.mk (blk_below (g := d0) (o := .cells #[.slice Y0 o0.length R0, .slice Y1 o1.length R1, .int .i64 h0, .int .i64 h1] 30 (0, 0)) zq28_ hb); have b1 := Aside0.mk (blk_below (g := d1) (o := .cells #[.bool false, .bool false, .bool false, .bool false] 51 (0, 0)) zq2a_ hb); have b2 := Aside0.mk (below_step zq72_ hb); have b3 := Aside0.mk (C_); have b4 := Aside0.mk ((zqa7_ : w.heap.size ≤ d2)); have b5 := Aside0.mk ((zqa7_ : w.heap.size ≤ d2)); have b6 := Aside0.mk ((zqc2_ : d0 ≠ d2)); have b7 := Aside0.mk ((zqb2_ : d2 ≠ d0)); have b8 := Aside0.mk ((by rw [hg]; exact Nat.ne_of_lt (blk_lt (g := d1) (o := .cells #[.bool false, .bool false, .bool false, .bool false] 51 (0, 0)) zq2a_) : d1 ≠ d2)); have b9 := Aside0.mk ((by rw [hg]; exact Nat.ne_of_gt (blk_lt (g := d1) (o := .cells #[.bool false, .bool false, .bool false, .bool false] 51 (0, 0)) zq2a_) : d2 ≠ d1)); clear c0; clear c10; clear HB; have c0 := b0; have c10 := b1; have HB := b2; have c11 := b3; have B2 := b4; have n2 := b5; have g2 := b6; have g3 := b7; have g4 := b8; have g5 := b9; clear b0 b1 b2 b3 b4 b5 b6 b7 b8 b9; clear hb C_ hg; have N0 := g0.out; have O0 := g1.out; have N1 := g2.out; have O1 := g3.out; obtain ⟨j33, j34, j35, j36, k34, k35, k37, k38⟩ := bz4_ c0.out))
    go_loopg [49] kj1 (fun kq L1 w' => ∃ (a1 : Int) (a2 : Bool) (a3 : Bool) (a4 : Bool) (a5 : Bool), L1 = .int .i64 a1 ∧ Aside0 (impl_ExecOk.l0 kq o0 (o0.length : Int) a1 o0 o1 h0 h1 a2 a3 a4 a5 false false false false = some r) ∧ Aside0 (kq ≤ kj1) ∧ Aside0 (w'.heap[d0]? = some (.cells #[(.slice Y0 o0.length R0), (.slice Y1 o1.length R1), .int .i64 h0, .int .i64 h1] 30 (0, 0))) ∧ Aside0 (w'.heap[d1]? = some (.cells #[.bool a2, .bool a3, .bool a4, .bool a5] 51 (0, 0))) ∧ Aside0 (w'.heap[d2]? = some (.cells #[.bool false, .bool false, .bool false, .bool false] 51 (0, 0))) ∧ Aside0 (Below w.heap.size w w'))
    case atStart => exact ⟨(0), (false), (false), (false), (false), zq69_, H', ⟨Nat.le_refl _⟩, ⟨zq28_⟩, ⟨zq2a_⟩, ⟨zq2b_⟩, ⟨zq71_⟩⟩
    case round =>
     clear H'
     try clear c1
     try clear c2
     try clear p2
     try clear c5
     try clear c6
     try clear c7
     try clear c8
     try clear r0
     try clear r1
     try clear c9
     try clear r2
     try clear r3
     try clear u0
     try clear r4
     try clear r5
     try clear u1
     try clear r6
     try clear r7
     try clear u2
     try clear r8
     try clear r9
     try clear c20
     try clear c21
     try clear c24
     try clear c25
     try clear j1 j2 j3 j4 k0 k1 k4 k5
     try clear j5 j6 j7 j8 k6 k7 k8 k9
     try clear j9 j10 j11 j12 k10 k11 k12 k13
     try clear j13 j14 j15 j16 k14 k15 k16 k17
     try clear j17 j18 j19 j20 k18 k19 k20 k21
     try clear j21 j22 j23 j24 k22 k23 k24 k25
     try clear j25 j26 j27 j28 k26 k27 k28 k29
     try clear j29 j30 j31 j32 k30 k31 k32 k33
     try clear j33 j34 j35 j36 k34 k35 k37 k38
     try clear p2
     obtain ⟨a1, a2, a3, a4, a5, rfl, HA, X0, c0, c10, c11, HB⟩ := hrel
     cases gk with
     | zero => exact absurd HA.out (by simp [impl_ExecOk.l0])
     | succ k2 =>
      have H := HA.out; clear HA; simp only [impl_ExecOk.l0] at H; replace H := ifc_ H
      rcases H with ⟨c27b0, H⟩ | ⟨c27b0, H⟩
      ·replace H := ifd2_ H; obtain ⟨r10, r11, H⟩ := H; replace H := bs_ H; obtain ⟨e2, y0, H⟩ := H; (try dsimp only at H); replace H := ifB_ H
       rcases H with ⟨rfl, H⟩ | ⟨rfl, H⟩
       ·replace H := ifd2_ H; obtain ⟨r12, r13, H⟩ := H; obtain ⟨bL0, bp0⟩ : ∃ b_ : Bool, b_ = (rdOf false [a2, a3, a4, a5] ((rd_T48 o0 a1).f0)) := ⟨_, rfl⟩; replace H : (if bL0 = true then (some false) else ((impl_in.f ((rd_T48 o0 a1).f1) 0 1000000).bind fun e3 => (if e3 = true then (impl_ExecOk.l0 k2 o0 (o0.length : Int) (wrap64 (a1 + 1)) o0 o1 h0 h1 (ixB ((rd_T48 o0 a1).f0) 0 true a2) (ixB ((rd_T48 o0 a1).f0) 1 true a3) (ixB ((rd_T48 o0 a1).f0) 2 true a4) (ixB ((rd_T48 o0 a1).f0) 3 true a5) false false false false) else (some false)))) = some r := by rw [← bp0] at H; exact H
        have bi0 := Aside0.mk bp0; clear bp0; replace H := ifB_ H
        rcases H with ⟨rfl, H⟩ | ⟨rfl, H⟩
        ·obtain rfl := Option.some.inj H; have x0 : 0 ≤ (a1 : Int) := of_decide_eq_true zq64_; have v0 : a1 < (o0.length : Int) := of_decide_eq_true zq64_; obtain ⟨E0, M0, s0, s1⟩ := at_T48 aN0.out a1 x0 v0; cases M0; replace s0 := pb_ HB.out s0; replace s1 := pb_ HB.out s1; replace x0 := eq_true x0; replace v0 := eq_true v0
         go_wp2_with (first | ((with_reducible refine gate_dst (N := 6) rfl ?_); (try (refine gate_guard (by rfl) ?_; dsimp only)); refine bxe_ (N := 6) (cs := #[.int .i64 0, .int .i64 0]) (t := 48) ?_; intro d3 hg q7 C_ hb; have b0 := Aside0.mk (blk_below (g := d0) (o := .cells #[.slice (some E0) o0.length R0, .slice Y1 o1.length R1, .int .i64 h0, .int .i64 h1] 30 (0, 0)) zq28_ hb); have b1 := Aside0.mk (blk_below (g := d1) (o := .cells #[.bool a2, .bool a3, .bool a4, .bool a5] 51 (0, 0)) zq2a_ hb); have b2 := Aside0.mk (blk_below (g := d2) (o := .cells #[.bool false, .bool false, .bool false, .bool false] 51 (0, 0)) zq2b_ hb); have b3 := Aside0.mk (below_step zq71_ hb); have b4 := Aside0.mk (C_); have b5 := Aside0.mk ((zqa6_ : w.heap.size ≤ d3)); have b6 := Aside0.mk ((zqa6_ : w.heap.size ≤ d3)); have b7 := Aside0.mk ((zqc0_ : d0 ≠ d3)); have b8 := Aside0.mk ((zqb0_ : d3 ≠ d0)); have b9 := Aside0.mk ((zqc7_ : d1 ≠ d3)); have b10 := Aside0.mk ((zqb7_ : d3 ≠ d1)); have b11 := Aside0.mk ((zqcb_ : d2 ≠ d3)); have b12 := Aside0.mk ((zqbb_ : d3 ≠ d2)); clear c0; clear c10; clear c11; clear HB; have c0 := b0; have c10 := b1; have c11 := b2; have HB := b3; have c12 := b4; have B3 := b5; have n3 := b6; have g6 := b7; have g7 := b8; have g8 := b9; have g9 := b10; have g10 := b11; have g11 := b12; clear b0 b1 b2 b3 b4 b5 b6 b7 b8 b9 b10 b11 b12; clear hb C_ hg; have N2 := g7.out; have O2 := g6.out; have N3 := g9.out; have O3 := g8.out; have N4 := g11.out; have O4 := g10.out; obtain ⟨j37, j38, k39, k40⟩ := bz2_ c12.out) | ((with_reducible refine gate_callee (f := 64) rfl ?_); refine gl_ 55 Try.func64 #[.int .i64 ((rd_T48 o0 a1).f0), .int .i64 0, .int .i64 3] ?_; (with_reducible refine (impl_in.calls ((rd_T48 o0 a1).f0) 0 3 true _ y0.out).mono ?_); rintro e w' ⟨rfl, ⟨nd, rfl⟩⟩; refine ⟨_, rfl, ?_⟩; have N5 := g1.out; have O5 := g0.out; have N6 := g4.out; have O6 := g5.out; have ad0 : 0 ≤ ((rd_T48 o0 a1).f0) := of_decide_eq_true zq64_; have ae0 : ((rd_T48 o0 a1).f0) < 4 := of_decide_eq_true zq64_; have aH0 := ixcellB4 (w := q7) ((rd_T48 o0 a1).f0) ad0 ae0 c10.out; have aX0 := blk_frozen c10.out ((rd_T48 o0 a1).f0).toNat; have aO0 := eq_true ad0; have aP0 := eq_true ae0; (try rw [← bi0.out] at aH0)))
         go_ret
         exact ⟨zq68_, zq70_⟩
        ·replace H := bs_ H; obtain ⟨e3, y1, H⟩ := H; (try dsimp only at H); replace H := ifB_ H
         rcases H with ⟨rfl, H⟩ | ⟨rfl, H⟩
         ·have H' := Aside0.mk H; clear H; have x0 : 0 ≤ (a1 : Int) := of_decide_eq_true zq64_; have v0 : a1 < (o0.length : Int) := of_decide_eq_true zq64_; obtain ⟨E0, M0, s0, s1⟩ := at_T48 aN0.out a1 x0 v0; cases M0; replace s0 := pb_ HB.out s0; replace s1 := pb_ HB.out s1; replace x0 := eq_true x0; replace v0 := eq_true v0
          go_wp2_with (first | ((with_reducible refine gate_dst (N := 6) rfl ?_); (try (refine gate_guard (by rfl) ?_; dsimp only)); refine bxe_ (N := 6) (cs := #[.int .i64 0, .int .i64 0]) (t := 48) ?_; intro d3 hg q7 C_ hb; have b0 := Aside0.mk (blk_below (g := d0) (o := .cells #[.slice (some E0) o0.length R0, .slice Y1 o1.length R1, .int .i64 h0, .int .i64 h1] 30 (0, 0)) zq28_ hb); have b1 := Aside0.mk (blk_below (g := d1) (o := .cells #[.bool a2, .bool a3, .bool a4, .bool a5] 51 (0, 0)) zq2a_ hb); have b2 := Aside0.mk (blk_below (g := d2) (o := .cells #[.bool false, .bool false, .bool false, .bool false] 51 (0, 0)) zq2b_ hb); have b3 := Aside0.mk (below_step zq71_ hb); have b4 := Aside0.mk (C_); have b5 := Aside0.mk ((zqa6_ : w.heap.size ≤ d3)); have b6 := Aside0.mk ((zqa6_ : w.heap.size ≤ d3)); have b7 := Aside0.mk ((zqc0_ : d0 ≠ d3)); have b8 := Aside0.mk ((zqb0_ : d3 ≠ d0)); have b9 := Aside0.mk ((zqc7_ : d1 ≠ d3)); have b10 := Aside0.mk ((zqb7_ : d3 ≠ d1)); have b11 := Aside0.mk ((zqcb_ : d2 ≠ d3)); have b12 := Aside0.mk ((zqbb_ : d3 ≠ d2)); clear c0; clear c10; clear c11; clear HB; have c0 := b0; have c10 := b1; have c11 := b2; have HB := b3; have c12 := b4; have B3 := b5; have n3 := b6; have g6 := b7; have g7 := b8; have g8 := b9; have g9 := b10; have g10 := b11; have g11 := b12; clear b0 b1 b2 b3 b4 b5 b6 b7 b8 b9 b10 b11 b12; clear hb C_ hg; have N2 := g7.out; have O2 := g6.out; have N3 := g9.out; have O3 := g8.out; have N4 := g11.out; have O4 := g10.out; obtain ⟨j37, j38, k39, k40⟩ := bz2_ c12.out) | ((with_reducible refine gate_callee (f := 64) rfl ?_); refine gl_ 55 Try.func64 #[.int .i64 ((rd_T48 o0 a1).f0), .int .i64 0, .int .i64 3] ?_; (with_reducible refine (impl_in.calls ((rd_T48 o0 a1).f0) 0 3 true _ y0.out).mono ?_); rintro e w' ⟨rfl, ⟨nd, rfl⟩⟩; refine ⟨_, rfl, ?_⟩; have N5 := g1.out; have O5 := g0.out; have N6 := g4.out; have O6 := g5.out; have ad0 : 0 ≤ ((rd_T48 o0 a1).f0) := of_decide_eq_true zq64_; have ae0 : ((rd_T48 o0 a1).f0) < 4 := of_decide_eq_true zq64_; have aH0 := ixcellB4 (w := q7) ((rd_T48 o0 a1).f0) ad0 ae0 c10.out; have aX0 := blk_frozen c10.out ((rd_T48 o0 a1).f0).toNat; have aO0 := eq_true ad0; have aP0 := eq_true ae0; (try rw [← bi0.out] at aH0)) | (go_at_call 64; (with_reducible refine (impl_in.calls ((rd_T48 o0 a1).f1) 0 1000000 true _ y1.out).mono ?_); rintro e w' ⟨rfl, ⟨nd, rfl⟩⟩; (try clear y1); have ad1 : 0 ≤ ((rd_T48 o0 a1).f0) := of_decide_eq_true zq64_; have ae1 : ((rd_T48 o0 a1).f0) < 4 := of_decide_eq_true zq64_; have aH1 := ixcellB4 (w := q7) ((rd_T48 o0 a1).f0) ad1 ae1 c10.out; have aX1 := blk_frozen c10.out ((rd_T48 o0 a1).f0).toNat; have aO1 := eq_true ad1; have aP1 := eq_true ae1; (try rw [← bi0.out] at aH1)) | ((with_reducible refine gate_store (t := 4) (p := 71) rfl ?_); refine store_event (t := 4) (p := 71) (v := ?vo_w55) (w1 := ?wo_w55) ?hg ?ho ?hn ?hr ?_; (case ho => rfl); (case hg => rfl); (case hn => rfl); (case hr => first | (go_simp; done) | (go_simp; rfl)); intro q8 hw; have b0 : Aside0 (q8.heap[d0]? = some (.cells #[.slice (some E0) o0.length R0, .slice Y1 o1.length R1, .int .i64 h0, .int .i64 h1] 30 (0, 0))) := ⟨(by rw [hw]; exact (by (with_reducible repeat (first | refine blk_drewN ?_ _ | refine blk_drew ?_ | refine blk_alloc ?_ _)); refine blk_far ?_ g0.out _; (with_reducible repeat (first | refine blk_drewN ?_ _ | refine blk_drew ?_ | refine blk_alloc ?_ _)); refine blk_far ?_ g6.out _; (with_reducible repeat (first | refine blk_drewN ?_ _ | refine blk_drew ?_ | refine blk_alloc ?_ _)); refine blk_far ?_ g6.out _; (with_reducible repeat (first | refine blk_drewN ?_ _ | refine blk_drew ?_ | refine blk_alloc ?_ _)); exact c0.out))⟩; have b1 : Aside0 (q8.heap[d1]? = some (.cells #[.bool (ixB ((rd_T48 o0 a1).f0) 0 true a2), .bool (ixB ((rd_T48 o0 a1).f0) 1 true a3), .bool (ixB ((rd_T48 o0 a1).f0) 2 true a4), .bool (ixB ((rd_T48 o0 a1).f0) 3 true a5)] 51 (0, 0))) := ⟨(by rw [hw]; exact (by (with_reducible repeat (first | refine blk_drewN ?_ _ | refine blk_drew ?_ | refine blk_alloc ?_ _)); refine blk_put (cs := #[.bool a2, .bool a3, .bool a4, .bool a5]) ?_ ((rd_T48 o0 a1).f0).toNat _ (ixputB4 ((rd_T48 o0 a1).f0) true a2 a3 a4 a5 ad1 ae1); (with_reducible repeat (first | refine blk_drewN ?_ _ | refine blk_drew ?_ | refine blk_alloc ?_ _)); refine blk_far ?_ g8.out _; (with_reducible repeat (first | refine blk_drewN ?_ _ | refine blk_drew ?_ | refine blk_alloc ?_ _)); refine blk_far ?_ g8.out _; (with_reducible repeat (first | refine blk_drewN ?_ _ | refine blk_drew ?_ | refine blk_alloc ?_ _)); exact c10.out))⟩; have b2 : Aside0 (q8.heap[d2]? = some (.cells #[.bool false, .bool false, .bool false, .bool false] 51 (0, 0))) := ⟨(by rw [hw]; exact (by (with_reducible repeat (first | refine blk_drewN ?_ _ | refine blk_drew ?_ | refine blk_alloc ?_ _)); refine blk_far ?_ g5.out _; (with_reducible repeat (first | refine blk_drewN ?_ _ | refine blk_drew ?_ | refine blk_alloc ?_ _)); refine blk_far ?_ g10.out _; (with_reducible repeat (first | refine blk_drewN ?_ _ | refine blk_drew ?_ | refine blk_alloc ?_ _)); refine blk_far ?_ g10.out _; (with_reducible repeat (first | refine blk_drewN ?_ _ | refine blk_drew ?_ | refine blk_alloc ?_ _)); exact c11.out))⟩; have b3 : Aside0 (q8.heap[d3]? = some (.cells #[.int .i64 ((rd_T48 o0 a1).f0), .int .i64 ((rd_T48 o0 a1).f1)] 48 (0, 0))) := ⟨(by rw [hw]; exact (by (with_reducible repeat (first | refine blk_drewN ?_ _ | refine blk_drew ?_ | refine blk_alloc ?_ _)); refine blk_far ?_ g9.out _; (with_reducible repeat (first | refine blk_drewN ?_ _ | refine blk_drew ?_ | refine blk_alloc ?_ _)); refine blk_put (cs := #[.int .i64 ((rd_T48 o0 a1).f0), .int .i64 0]) ?_ 1 _ rfl; (with_reducible repeat (first | refine blk_drewN ?_ _ | refine blk_drew ?_ | refine blk_alloc ?_ _)); refine blk_put (cs := #[.int .i64 0, .int .i64 0]) ?_ 0 _ rfl; (with_reducible repeat (first | refine blk_drewN ?_ _ | refine blk_drew ?_ | refine blk_alloc ?_ _)); exact c12.out))⟩; have b4 : Aside0 (Below w.heap.size w q8) := ⟨(by rw [hw]; exact zq70_)⟩; clear hw; clear c0; clear c10; clear c11; clear c12; clear HB; have c0 := b0; have c10 := b1; have c11 := b2; have c12 := b3; have HB := b4; clear b0 b1 b2 b3 b4))
          go_roundg k2
          case measure => have := an0.out; have := X0.out; omega
          case rel => exact ⟨(wrap64 (a1 + 1)), ((ixB ((rd_T48 o0 a1).f0) 0 true a2)), ((ixB ((rd_T48 o0 a1).f0) 1 true a3)), ((ixB ((rd_T48 o0 a1).f0) 2 true a4)), ((ixB ((rd_T48 o0 a1).f0) 3 true a5)), zq69_, H', ⟨by have := an0.out; have := X0.out; omega⟩, ⟨zq28_⟩, ⟨zq2a_⟩, ⟨zq2b_⟩, ⟨zq70_⟩⟩
         ·obtain rfl := Option.some.inj H; have x0 : 0 ≤ (a1 : Int) := of_decide_eq_true zq64_; have v0 : a1 < (o0.length : Int) := of_decide_eq_true zq64_; obtain ⟨E0, M0, s0, s1⟩ := at_T48 aN0.out a1 x0 v0; cases M0; replace s0 := pb_ HB.out s0; replace s1 := pb_ HB.out s1; replace x0 := eq_true x0; replace v0 := eq_true v0
          go_wp2_with (first | ((with_reducible refine gate_dst (N := 6) rfl ?_); (try (refine gate_guard (by rfl) ?_; dsimp only)); refine bxe_ (N := 6) (cs := #[.int .i64 0, .int .i64 0]) (t := 48) ?_; intro d3 hg q7 C_ hb; have b0 := Aside0.mk (blk_below (g := d0) (o := .cells #[.slice (some E0) o0.length R0, .slice Y1 o1.length R1, .int .i64 h0, .int .i64 h1] 30 (0, 0)) zq28_ hb); have b1 := Aside0.mk (blk_below (g := d1) (o := .cells #[.bool a2, .bool a3, .bool a4, .bool a5] 51 (0, 0)) zq2a_ hb); have b2 := Aside0.mk (blk_below (g := d2) (o := .cells #[.bool false, .bool false, .bool false, .bool false] 51 (0, 0)) zq2b_ hb); have b3 := Aside0.mk (below_step zq71_ hb); have b4 := Aside0.mk (C_); have b5 := Aside0.mk ((zqa6_ : w.heap.size ≤ d3)); have b6 := Aside0.mk ((zqa6_ : w.heap.size ≤ d3)); have b7 := Aside0.mk ((zqc0_ : d0 ≠ d3)); have b8 := Aside0.mk ((zqb0_ : d3 ≠ d0)); have b9 := Aside0.mk ((zqc7_ : d1 ≠ d3)); have b10 := Aside0.mk ((zqb7_ : d3 ≠ d1)); have b11 := Aside0.mk ((zqcb_ : d2 ≠ d3)); have b12 := Aside0.mk ((zqbb_ : d3 ≠ d2)); clear c0; clear c10; clear c11; clear HB; have c0 := b0; have c10 := b1; have c11 := b2; have HB := b3; have c12 := b4; have B3 := b5; have n3 := b6; have g6 := b7; have g7 := b8; have g8 := b9; have g9 := b10; have g10 := b11; have g11 := b12; clear b0 b1 b2 b3 b4 b5 b6 b7 b8 b9 b10 b11 b12; clear hb C_ hg; have N2 := g7.out; have O2 := g6.out; have N3 := g9.out; have O3 := g8.out; have N4 := g11.out; have O4 := g10.out; obtain ⟨j37, j38, k39, k40⟩ := bz2_ c12.out) | ((with_reducible refine gate_callee (f := 64) rfl ?_); refine gl_ 55 Try.func64 #[.int .i64 ((rd_T48 o0 a1).f0), .int .i64 0, .int .i64 3] ?_; (with_reducible refine (impl_in.calls ((rd_T48 o0 a1).f0) 0 3 true _ y0.out).mono ?_); rintro e w' ⟨rfl, ⟨nd, rfl⟩⟩; refine ⟨_, rfl, ?_⟩; have N5 := g1.out; have O5 := g0.out; have N6 := g4.out; have O6 := g5.out; have ad0 : 0 ≤ ((rd_T48 o0 a1).f0) := of_decide_eq_true zq64_; have ae0 : ((rd_T48 o0 a1).f0) < 4 := of_decide_eq_true zq64_; have aH0 := ixcellB4 (w := q7) ((rd_T48 o0 a1).f0) ad0 ae0 c10.out; have aX0 := blk_frozen c10.out ((rd_T48 o0 a1).f0).toNat; have aO0 := eq_true ad0; have aP0 := eq_true ae0; (try rw [← bi0.out] at aH0)) | (go_at_call 64; (with_reducible refine (impl_in.calls ((rd_T48 o0 a1).f1) 0 1000000 false _ y1.out).mono ?_); rintro e w' ⟨rfl, ⟨nd, rfl⟩⟩; (try clear y1)))
          go_ret
          exact ⟨zq68_, zq70_⟩
       ·obtain rfl := Option.some.inj H; have x0 : 0 ≤ (a1 : Int) := of_decide_eq_true zq64_; have v0 : a1 < (o0.length : Int) := of_decide_eq_true zq64_; obtain ⟨E0, M0, s0, s1⟩ := at_T48 aN0.out a1 x0 v0; cases M0; replace s0 := pb_ HB.out s0; replace s1 := pb_ HB.out s1; replace x0 := eq_true x0; replace v0 := eq_true v0
        go_wp2_with (first | ((with_reducible refine gate_dst (N := 6) rfl ?_); (try (refine gate_guard (by rfl) ?_; dsimp only)); refine bxe_ (N := 6) (cs := #[.int .i64 0, .int .i64 0]) (t := 48) ?_; intro d3 hg q7 C_ hb; have b0 := Aside0.mk (blk_below (g := d0) (o := .cells #[.slice (some E0) o0.length R0, .slice Y1 o1.length R1, .int .i64 h0, .int .i64 h1] 30 (0, 0)) zq28_ hb); have b1 := Aside0.mk (blk_below (g := d1) (o := .cells #[.bool a2, .bool a3, .bool a4, .bool a5] 51 (0, 0)) zq2a_ hb); have b2 := Aside0.mk (blk_below (g := d2) (o := .cells #[.bool false, .bool false, .bool false, .bool false] 51 (0, 0)) zq2b_ hb); have b3 := Aside0.mk (below_step zq71_ hb); have b4 := Aside0.mk (C_); have b5 := Aside0.mk ((zqa6_ : w.heap.size ≤ d3)); have b6 := Aside0.mk ((zqa6_ : w.heap.size ≤ d3)); have b7 := Aside0.mk ((zqc0_ : d0 ≠ d3)); have b8 := Aside0.mk ((zqb0_ : d3 ≠ d0)); have b9 := Aside0.mk ((zqc7_ : d1 ≠ d3)); have b10 := Aside0.mk ((zqb7_ : d3 ≠ d1)); have b11 := Aside0.mk ((zqcb_ : d2 ≠ d3)); have b12 := Aside0.mk ((zqbb_ : d3 ≠ d2)); clear c0; clear c10; clear c11; clear HB; have c0 := b0; have c10 := b1; have c11 := b2; have HB := b3; have c12 := b4; have B3 := b5; have n3 := b6; have g6 := b7; have g7 := b8; have g8 := b9; have g9 := b10; have g10 := b11; have g11 := b12; clear b0 b1 b2 b3 b4 b5 b6 b7 b8 b9 b10 b11 b12; clear hb C_ hg; have N2 := g7.out; have O2 := g6.out; have N3 := g9.out; have O3 := g8.out; have N4 := g11.out; have O4 := g10.out; obtain ⟨j37, j38, k39, k40⟩ := bz2_ c12.out) | ((with_reducible refine gate_callee (f := 64) rfl ?_); refine gl_ 55 Try.func64 #[.int .i64 ((rd_T48 o0 a1).f0), .int .i64 0, .int .i64 3] ?_; (with_reducible refine (impl_in.calls ((rd_T48 o0 a1).f0) 0 3 false _ y0.out).mono ?_); rintro e w' ⟨rfl, ⟨nd, rfl⟩⟩; refine ⟨_, rfl, ?_⟩))
        go_ret
        exact ⟨zq68_, zq70_⟩
      ·have H' := Aside0.mk H; clear H; have N2 := g0.out; have O2 := g1.out; have N3 := g2.out; have O3 := g3.out; obtain ⟨j37, j38, j39, j40, k39, k40, k41, k42⟩ := bz4_ c0.out
       go_wp2
       go_loopg [76] k2 (fun kq L2 w' => ∃ (a6 : Int) (a7 : Bool) (a8 : Bool) (a9 : Bool) (a10 : Bool), L2 = .int .i64 a6 ∧ Aside0 (impl_ExecOk.l1 kq o1 (o1.length : Int) a6 a7 a8 a9 a10 = some r) ∧ Aside0 (kq ≤ k2) ∧ Aside0 (w'.heap[d0]? = some (.cells #[(.slice Y0 o0.length R0), (.slice Y1 o1.length R1), .int .i64 h0, .int .i64 h1] 30 (0, 0))) ∧ Aside0 (w'.heap[d1]? = some (.cells #[.bool a2, .bool a3, .bool a4, .bool a5] 51 (0, 0))) ∧ Aside0 (w'.heap[d2]? = some (.cells #[.bool a7, .bool a8, .bool a9, .bool a10] 51 (0, 0))) ∧ Aside0 (Below w.heap.size w w'))
       case atStart => exact ⟨(0), (false), (false), (false), (false), zq69_, H', ⟨Nat.le_refl _⟩, ⟨zq28_⟩, ⟨zq2a_⟩, ⟨zq2b_⟩, ⟨zq71_⟩⟩
       case round =>
        clear H'
        try clear c1
        try clear p1
        try clear q1
        try clear hx1
        try clear c2
        try clear p2
        try clear c3
        try clear q3
        try clear c4
        try clear p4
        try clear q4
        try clear c5
        try clear p5
        try clear q5
        try clear c6
        try clear p6
        try clear q6
        try clear c7
        try clear c8
        try clear r0
        try clear r1
        try clear c9
        try clear r2
        try clear r3
        try clear u0
        try clear r4
        try clear r5
        try clear u1
        try clear r6
        try clear r7
        try clear u2
        try clear r8
        try clear r9
        try clear p16
        try clear q16
        try clear hx16
        try clear c20
        try clear c21
        try clear c24
        try clear c25
        try clear c27
        try clear c27b0
        try clear c28
        try clear r10
        try clear c29
        try clear r11
        try clear c31
        try clear c32
        try clear r12
        try clear c33
        try clear r13
        try clear q34
        try clear c35
        try clear c37
        try clear c38
        try clear c39
        try clear p41
        try clear q41
        try clear c42
        try clear c43
        try clear c45
        try clear c47
        try clear c48
        try clear c49
        try clear p51
        try clear q51
        try clear c52
        try clear c53
        try clear p54
        try clear q54
        try clear c57
        try clear c58
        try clear c59
        try clear p61
        try clear q61
        try clear c62
        try clear c63
        try clear c64
        try clear p64
        try clear c65
        try clear c66
        try clear c67
        try clear c69
        try clear c70
        try clear j1 j2 j3 j4 k0 k1 k4 k5
        try clear j5 j6 j7 j8 k6 k7 k8 k9
        try clear j9 j10 j11 j12 k10 k11 k12 k13
        try clear j13 j14 j15 j16 k14 k15 k16 k17
        try clear j17 j18 j19 j20 k18 k19 k20 k21
        try clear j21 j22 j23 j24 k22 k23 k24 k25
        try clear j25 j26 j27 j28 k26 k27 k28 k29
        try clear j29 j30 j31 j32 k30 k31 k32 k33
        try clear j33 j34 j35 j36 k34 k35 k37 k38
        try clear j41 j42 k43 k44
        try clear j43 j44 k45 k46
        try clear j45 j46 k47 k49
        try clear j47 j48 k50 k51
        try clear j37 j38 j39 j40 k39 k40 k41 k42
        try clear s0
        try clear s1
        try clear x0
        try clear p2
        try clear v0
        obtain ⟨a6, a7, a8, a9, a10, rfl, HA, X1, c0, c10, c11, HB⟩ := hrel
        cases gk with
        | zero => exact absurd HA.out (by simp [impl_ExecOk.l1])
        | succ k3 =>
         have H := HA.out; clear HA; simp only [impl_ExecOk.l1] at H; replace H := ifc_ H
         rcases H with ⟨c72b0, H⟩ | ⟨c72b0, H⟩
         ·replace H := ifd2_ H; obtain ⟨r14, r15, H⟩ := H; replace H := bs_ H; obtain ⟨e2, y0, H⟩ := H; (try dsimp only at H); replace H := ifB_ H
          rcases H with ⟨rfl, H⟩ | ⟨rfl, H⟩
          ·replace H := ifd2_ H; obtain ⟨r16, r17, H⟩ := H; obtain ⟨bL0, bp0⟩ : ∃ b_ : Bool, b_ = (rdOf false [a7, a8, a9, a10] ((rd_T36 o1 a6).f0)) := ⟨_, rfl⟩; replace H : (if bL0 = true then (some false) else ((impl_in.f ((rd_T36 o1 a6).f1) (-1000000) 1000000).bind fun e3 => (if e3 = true then (impl_ExecOk.l1 k3 o1 (o1.length : Int) (wrap64 (a6 + 1)) (ixB ((rd_T36 o1 a6).f0) 0 true a7) (ixB ((rd_T36 o1 a6).f0) 1 true a8) (ixB ((rd_T36 o1 a6).f0) 2 true a9) (ixB ((rd_T36 o1 a6).f0) 3 true a10)) else (some false)))) = some r := by rw [← bp0] at H; exact H
           have bi0 := Aside0.mk bp0; clear bp0; replace H := ifB_ H
           rcases H with ⟨rfl, H⟩ | ⟨rfl, H⟩
           ·obtain rfl := Option.some.inj H; have x1 : 0 ≤ (a6 : Int) := of_decide_eq_true zq64_; have v1 : a6 < (o1.length : Int) := of_decide_eq_true zq64_; obtain ⟨E0, M0, s2, s3⟩ := at_T36 aN1.out a6 x1 v1; cases M0; replace s2 := pb_ HB.out s2; replace s3 := pb_ HB.out s3; replace x1 := eq_true x1; replace v1 := eq_true v1
            go_wp2_with (first | ((with_reducible refine gate_dst (N := 8) rfl ?_); (try (refine gate_guard (by rfl) ?_; dsimp only)); refine bxe_ (N := 8) (cs := #[.int .i64 0, .int .i64 0]) (t := 36) ?_; intro d3 hg q7 C_ hb; have b0 := Aside0.mk (blk_below (g := d0) (o := .cells #[.slice Y0 o0.length R0, .slice (some E0) o1.length R1, .int .i64 h0, .int .i64 h1] 30 (0, 0)) zq28_ hb); have b1 := Aside0.mk (blk_below (g := d1) (o := .cells #[.bool a2, .bool a3, .bool a4, .bool a5] 51 (0, 0)) zq2a_ hb); have b2 := Aside0.mk (blk_below (g := d2) (o := .cells #[.bool a7, .bool a8, .bool a9, .bool a10] 51 (0, 0)) zq2b_ hb); have b3 := Aside0.mk (below_step zq71_ hb); have b4 := Aside0.mk (C_); have b5 := Aside0.mk ((zqa6_ : w.heap.size ≤ d3)); have b6 := Aside0.mk ((zqa6_ : w.heap.size ≤ d3)); have b7 := Aside0.mk ((zqc1_ : d0 ≠ d3)); have b8 := Aside0.mk ((zqb1_ : d3 ≠ d0)); have b9 := Aside0.mk ((zqc7_ : d1 ≠ d3)); have b10 := Aside0.mk ((zqb7_ : d3 ≠ d1)); have b11 := Aside0.mk ((zqca_ : d2 ≠ d3)); have b12 := Aside0.mk ((zqba_ : d3 ≠ d2)); clear c0; clear c10; clear c11; clear HB; have c0 := b0; have c10 := b1; have c11 := b2; have HB := b3; have c12 := b4; have B3 := b5; have n3 := b6; have g6 := b7; have g7 := b8; have g8 := b9; have g9 := b10; have g10 := b11; have g11 := b12; clear b0 b1 b2 b3 b4 b5 b6 b7 b8 b9 b10 b11 b12; clear hb C_ hg; have N4 := g7.out; have O4 := g6.out; have N5 := g9.out; have O5 := g8.out; have N6 := g11.out; have O6 := g10.out; obtain ⟨j49, j50, k52, k53⟩ := bz2_ c12.out) | ((with_reducible refine gate_callee (f := 64) rfl ?_); refine gl_ 82 Try.func64 #[.int .i64 ((rd_T36 o1 a6).f0), .int .i64 0, .int .i64 3] ?_; (with_reducible refine (impl_in.calls ((rd_T36 o1 a6).f0) 0 3 true _ y0.out).mono ?_); rintro e w' ⟨rfl, ⟨nd, rfl⟩⟩; refine ⟨_, rfl, ?_⟩; have N7 := g3.out; have O7 := g2.out; have N8 := g5.out; have O8 := g4.out; have ad0 : 0 ≤ ((rd_T36 o1 a6).f0) := of_decide_eq_true zq64_; have ae0 : ((rd_T36 o1 a6).f0) < 4 := of_decide_eq_true zq64_; have aH0 := ixcellB4 (w := q7) ((rd_T36 o1 a6).f0) ad0 ae0 c11.out; have aX0 := blk_frozen c11.out ((rd_T36 o1 a6).f0).toNat; have aO0 := eq_true ad0; have aP0 := eq_true ae0; (try rw [← bi0.out] at aH0)))
            go_ret
            exact ⟨zq68_, zq70_⟩
           ·replace H := bs_ H; obtain ⟨e3, y1, H⟩ := H; (try dsimp only at H); replace H := ifB_ H
            rcases H with ⟨rfl, H⟩ | ⟨rfl, H⟩
            ·have H' := Aside0.mk H; clear H; have x1 : 0 ≤ (a6 : Int) := of_decide_eq_true zq64_; have v1 : a6 < (o1.length : Int) := of_decide_eq_true zq64_; obtain ⟨E0, M0, s2, s3⟩ := at_T36 aN1.out a6 x1 v1; cases M0; replace s2 := pb_ HB.out s2; replace s3 := pb_ HB.out s3; replace x1 := eq_true x1; replace v1 := eq_true v1
             go_wp2_with (first | ((with_reducible refine gate_dst (N := 8) rfl ?_); (try (refine gate_guard (by rfl) ?_; dsimp only)); refine bxe_ (N := 8) (cs := #[.int .i64 0, .int .i64 0]) (t := 36) ?_; intro d3 hg q7 C_ hb; have b0 := Aside0.mk (blk_below (g := d0) (o := .cells #[.slice Y0 o0.length R0, .slice (some E0) o1.length R1, .int .i64 h0, .int .i64 h1] 30 (0, 0)) zq28_ hb); have b1 := Aside0.mk (blk_below (g := d1) (o := .cells #[.bool a2, .bool a3, .bool a4, .bool a5] 51 (0, 0)) zq2a_ hb); have b2 := Aside0.mk (blk_below (g := d2) (o := .cells #[.bool a7, .bool a8, .bool a9, .bool a10] 51 (0, 0)) zq2b_ hb); have b3 := Aside0.mk (below_step zq71_ hb); have b4 := Aside0.mk (C_); have b5 := Aside0.mk ((zqa6_ : w.heap.size ≤ d3)); have b6 := Aside0.mk ((zqa6_ : w.heap.size ≤ d3)); have b7 := Aside0.mk ((zqc1_ : d0 ≠ d3)); have b8 := Aside0.mk ((zqb1_ : d3 ≠ d0)); have b9 := Aside0.mk ((zqc7_ : d1 ≠ d3)); have b10 := Aside0.mk ((zqb7_ : d3 ≠ d1)); have b11 := Aside0.mk ((zqca_ : d2 ≠ d3)); have b12 := Aside0.mk ((zqba_ : d3 ≠ d2)); clear c0; clear c10; clear c11; clear HB; have c0 := b0; have c10 := b1; have c11 := b2; have HB := b3; have c12 := b4; have B3 := b5; have n3 := b6; have g6 := b7; have g7 := b8; have g8 := b9; have g9 := b10; have g10 := b11; have g11 := b12; clear b0 b1 b2 b3 b4 b5 b6 b7 b8 b9 b10 b11 b12; clear hb C_ hg; have N4 := g7.out; have O4 := g6.out; have N5 := g9.out; have O5 := g8.out; have N6 := g11.out; have O6 := g10.out; obtain ⟨j49, j50, k52, k53⟩ := bz2_ c12.out) | ((with_reducible refine gate_callee (f := 64) rfl ?_); refine gl_ 82 Try.func64 #[.int .i64 ((rd_T36 o1 a6).f0), .int .i64 0, .int .i64 3] ?_; (with_reducible refine (impl_in.calls ((rd_T36 o1 a6).f0) 0 3 true _ y0.out).mono ?_); rintro e w' ⟨rfl, ⟨nd, rfl⟩⟩; refine ⟨_, rfl, ?_⟩; have N7 := g3.out; have O7 := g2.out; have N8 := g5.out; have O8 := g4.out; have ad0 : 0 ≤ ((rd_T36 o1 a6).f0) := of_decide_eq_true zq64_; have ae0 : ((rd_T36 o1 a6).f0) < 4 := of_decide_eq_true zq64_; have aH0 := ixcellB4 (w := q7) ((rd_T36 o1 a6).f0) ad0 ae0 c11.out; have aX0 := blk_frozen c11.out ((rd_T36 o1 a6).f0).toNat; have aO0 := eq_true ad0; have aP0 := eq_true ae0; (try rw [← bi0.out] at aH0)) | (go_at_call 64; (with_reducible refine (impl_in.calls ((rd_T36 o1 a6).f1) (-1000000) 1000000 true _ y1.out).mono ?_); rintro e w' ⟨rfl, ⟨nd, rfl⟩⟩; (try clear y1); have ad1 : 0 ≤ ((rd_T36 o1 a6).f0) := of_decide_eq_true zq64_; have ae1 : ((rd_T36 o1 a6).f0) < 4 := of_decide_eq_true zq64_; have aH1 := ixcellB4 (w := q7) ((rd_T36 o1 a6).f0) ad1 ae1 c11.out; have aX1 := blk_frozen c11.out ((rd_T36 o1 a6).f0).toNat; have aO1 := eq_true ad1; have aP1 := eq_true ae1; (try rw [← bi0.out] at aH1)) | ((with_reducible refine gate_store (t := 4) (p := 98) rfl ?_); refine store_event (t := 4) (p := 98) (v := ?vo_w100) (w1 := ?wo_w100) ?hg ?ho ?hn ?hr ?_; (case ho => rfl); (case hg => rfl); (case hn => rfl); (case hr => first | (go_simp; done) | (go_simp; rfl)); intro q8 hw; have b0 : Aside0 (q8.heap[d0]? = some (.cells #[.slice Y0 o0.length R0, .slice (some E0) o1.length R1, .int .i64 h0, .int .i64 h1] 30 (0, 0))) := ⟨(by rw [hw]; exact (by (with_reducible repeat (first | refine blk_drewN ?_ _ | refine blk_drew ?_ | refine blk_alloc ?_ _)); refine blk_far ?_ g2.out _; (with_reducible repeat (first | refine blk_drewN ?_ _ | refine blk_drew ?_ | refine blk_alloc ?_ _)); refine blk_far ?_ g6.out _; (with_reducible repeat (first | refine blk_drewN ?_ _ | refine blk_drew ?_ | refine blk_alloc ?_ _)); refine blk_far ?_ g6.out _; (with_reducible repeat (first | refine blk_drewN ?_ _ | refine blk_drew ?_ | refine blk_alloc ?_ _)); exact c0.out))⟩; have b1 : Aside0 (q8.heap[d1]? = some (.cells #[.bool a2, .bool a3, .bool a4, .bool a5] 51 (0, 0))) := ⟨(by rw [hw]; exact (by (with_reducible repeat (first | refine blk_drewN ?_ _ | refine blk_drew ?_ | refine blk_alloc ?_ _)); refine blk_far ?_ g4.out _; (with_reducible repeat (first | refine blk_drewN ?_ _ | refine blk_drew ?_ | refine blk_alloc ?_ _)); refine blk_far ?_ g8.out _; (with_reducible repeat (first | refine blk_drewN ?_ _ | refine blk_drew ?_ | refine blk_alloc ?_ _)); refine blk_far ?_ g8.out _; (with_reducible repeat (first | refine blk_drewN ?_ _ | refine blk_drew ?_ | refine blk_alloc ?_ _)); exact c10.out))⟩; have b2 : Aside0 (q8.heap[d2]? = some (.cells #[.bool (ixB ((rd_T36 o1 a6).f0) 0 true a7), .bool (ixB ((rd_T36 o1 a6).f0) 1 true a8), .bool (ixB ((rd_T36 o1 a6).f0) 2 true a9), .bool (ixB ((rd_T36 o1 a6).f0) 3 true a10)] 51 (0, 0))) := ⟨(by rw [hw]; exact (by (with_reducible repeat (first | refine blk_drewN ?_ _ | refine blk_drew ?_ | refine blk_alloc ?_ _)); refine blk_put (cs := #[.bool a7, .bool a8, .bool a9, .bool a10]) ?_ ((rd_T36 o1 a6).f0).toNat _ (ixputB4 ((rd_T36 o1 a6).f0) true a7 a8 a9 a10 ad1 ae1); (with_reducible repeat (first | refine blk_drewN ?_ _ | refine blk_drew ?_ | refine blk_alloc ?_ _)); refine blk_far ?_ g10.out _; (with_reducible repeat (first | refine blk_drewN ?_ _ | refine blk_drew ?_ | refine blk_alloc ?_ _)); refine blk_far ?_ g10.out _; (with_reducible repeat (first | refine blk_drewN ?_ _ | refine blk_drew ?_ | refine blk_alloc ?_ _)); exact c11.out))⟩; have b3 : Aside0 (q8.heap[d3]? = some (.cells #[.int .i64 ((rd_T36 o1 a6).f0), .int .i64 ((rd_T36 o1 a6).f1)] 36 (0, 0))) := ⟨(by rw [hw]; exact (by (with_reducible repeat (first | refine blk_drewN ?_ _ | refine blk_drew ?_ | refine blk_alloc ?_ _)); refine blk_far ?_ g11.out _; (with_reducible repeat (first | refine blk_drewN ?_ _ | refine blk_drew ?_ | refine blk_alloc ?_ _)); refine blk_put (cs := #[.int .i64 ((rd_T36 o1 a6).f0), .int .i64 0]) ?_ 1 _ rfl; (with_reducible repeat (first | refine blk_drewN ?_ _ | refine blk_drew ?_ | refine blk_alloc ?_ _)); refine blk_put (cs := #[.int .i64 0, .int .i64 0]) ?_ 0 _ rfl; (with_reducible repeat (first | refine blk_drewN ?_ _ | refine blk_drew ?_ | refine blk_alloc ?_ _)); exact c12.out))⟩; have b4 : Aside0 (Below w.heap.size w q8) := ⟨(by rw [hw]; exact zq70_)⟩; clear hw; clear c0; clear c10; clear c11; clear c12; clear HB; have c0 := b0; have c10 := b1; have c11 := b2; have c12 := b3; have HB := b4; clear b0 b1 b2 b3 b4))
             go_roundg k3
             case measure => have := an0.out; have := X0.out; have := X1.out; omega
             case rel => exact ⟨(wrap64 (a6 + 1)), ((ixB ((rd_T36 o1 a6).f0) 0 true a7)), ((ixB ((rd_T36 o1 a6).f0) 1 true a8)), ((ixB ((rd_T36 o1 a6).f0) 2 true a9)), ((ixB ((rd_T36 o1 a6).f0) 3 true a10)), zq69_, H', ⟨by have := an0.out; have := X0.out; have := X1.out; omega⟩, ⟨zq28_⟩, ⟨zq2a_⟩, ⟨zq2b_⟩, ⟨zq70_⟩⟩
            ·obtain rfl := Option.some.inj H; have x1 : 0 ≤ (a6 : Int) := of_decide_eq_true zq64_; have v1 : a6 < (o1.length : Int) := of_decide_eq_true zq64_; obtain ⟨E0, M0, s2, s3⟩ := at_T36 aN1.out a6 x1 v1; cases M0; replace s2 := pb_ HB.out s2; replace s3 := pb_ HB.out s3; replace x1 := eq_true x1; replace v1 := eq_true v1
             go_wp2_with (first | ((with_reducible refine gate_dst (N := 8) rfl ?_); (try (refine gate_guard (by rfl) ?_; dsimp only)); refine bxe_ (N := 8) (cs := #[.int .i64 0, .int .i64 0]) (t := 36) ?_; intro d3 hg q7 C_ hb; have b0 := Aside0.mk (blk_below (g := d0) (o := .cells #[.slice Y0 o0.length R0, .slice (some E0) o1.length R1, .int .i64 h0, .int .i64 h1] 30 (0, 0)) zq28_ hb); have b1 := Aside0.mk (blk_below (g := d1) (o := .cells #[.bool a2, .bool a3, .bool a4, .bool a5] 51 (0, 0)) zq2a_ hb); have b2 := Aside0.mk (blk_below (g := d2) (o := .cells #[.bool a7, .bool a8, .bool a9, .bool a10] 51 (0, 0)) zq2b_ hb); have b3 := Aside0.mk (below_step zq71_ hb); have b4 := Aside0.mk (C_); have b5 := Aside0.mk ((zqa6_ : w.heap.size ≤ d3)); have b6 := Aside0.mk ((zqa6_ : w.heap.size ≤ d3)); have b7 := Aside0.mk ((zqc1_ : d0 ≠ d3)); have b8 := Aside0.mk ((zqb1_ : d3 ≠ d0)); have b9 := Aside0.mk ((zqc7_ : d1 ≠ d3)); have b10 := Aside0.mk ((zqb7_ : d3 ≠ d1)); have b11 := Aside0.mk ((zqca_ : d2 ≠ d3)); have b12 := Aside0.mk ((zqba_ : d3 ≠ d2)); clear c0; clear c10; clear c11; clear HB; have c0 := b0; have c10 := b1; have c11 := b2; have HB := b3; have c12 := b4; have B3 := b5; have n3 := b6; have g6 := b7; have g7 := b8; have g8 := b9; have g9 := b10; have g10 := b11; have g11 := b12; clear b0 b1 b2 b3 b4 b5 b6 b7 b8 b9 b10 b11 b12; clear hb C_ hg; have N4 := g7.out; have O4 := g6.out; have N5 := g9.out; have O5 := g8.out; have N6 := g11.out; have O6 := g10.out; obtain ⟨j49, j50, k52, k53⟩ := bz2_ c12.out) | ((with_reducible refine gate_callee (f := 64) rfl ?_); refine gl_ 82 Try.func64 #[.int .i64 ((rd_T36 o1 a6).f0), .int .i64 0, .int .i64 3] ?_; (with_reducible refine (impl_in.calls ((rd_T36 o1 a6).f0) 0 3 true _ y0.out).mono ?_); rintro e w' ⟨rfl, ⟨nd, rfl⟩⟩; refine ⟨_, rfl, ?_⟩; have N7 := g3.out; have O7 := g2.out; have N8 := g5.out; have O8 := g4.out; have ad0 : 0 ≤ ((rd_T36 o1 a6).f0) := of_decide_eq_true zq64_; have ae0 : ((rd_T36 o1 a6).f0) < 4 := of_decide_eq_true zq64_; have aH0 := ixcellB4 (w := q7) ((rd_T36 o1 a6).f0) ad0 ae0 c11.out; have aX0 := blk_frozen c11.out ((rd_T36 o1 a6).f0).toNat; have aO0 := eq_true ad0; have aP0 := eq_true ae0; (try rw [← bi0.out] at aH0)) | (go_at_call 64; (with_reducible refine (impl_in.calls ((rd_T36 o1 a6).f1) (-1000000) 1000000 false _ y1.out).mono ?_); rintro e w' ⟨rfl, ⟨nd, rfl⟩⟩; (try clear y1)))
             go_ret
             exact ⟨zq68_, zq70_⟩
          ·obtain rfl := Option.some.inj H; have x1 : 0 ≤ (a6 : Int) := of_decide_eq_true zq64_; have v1 : a6 < (o1.length : Int) := of_decide_eq_true zq64_; obtain ⟨E0, M0, s2, s3⟩ := at_T36 aN1.out a6 x1 v1; cases M0; replace s2 := pb_ HB.out s2; replace s3 := pb_ HB.out s3; replace x1 := eq_true x1; replace v1 := eq_true v1
           go_wp2_with (first | ((with_reducible refine gate_dst (N := 8) rfl ?_); (try (refine gate_guard (by rfl) ?_; dsimp only)); refine bxe_ (N := 8) (cs := #[.int .i64 0, .int .i64 0]) (t := 36) ?_; intro d3 hg q7 C_ hb; have b0 := Aside0.mk (blk_below (g := d0) (o := .cells #[.slice Y0 o0.length R0, .slice (some E0) o1.length R1, .int .i64 h0, .int .i64 h1] 30 (0, 0)) zq28_ hb); have b1 := Aside0.mk (blk_below (g := d1) (o := .cells #[.bool a2, .bool a3, .bool a4, .bool a5] 51 (0, 0)) zq2a_ hb); have b2 := Aside0.mk (blk_below (g := d2) (o := .cells #[.bool a7, .bool a8, .bool a9, .bool a10] 51 (0, 0)) zq2b_ hb); have b3 := Aside0.mk (below_step zq71_ hb); have b4 := Aside0.mk (C_); have b5 := Aside0.mk ((zqa6_ : w.heap.size ≤ d3)); have b6 := Aside0.mk ((zqa6_ : w.heap.size ≤ d3)); have b7 := Aside0.mk ((zqc1_ : d0 ≠ d3)); have b8 := Aside0.mk ((zqb1_ : d3 ≠ d0)); have b9 := Aside0.mk ((zqc7_ : d1 ≠ d3)); have b10 := Aside0.mk ((zqb7_ : d3 ≠ d1)); have b11 := Aside0.mk ((zqca_ : d2 ≠ d3)); have b12 := Aside0.mk ((zqba_ : d3 ≠ d2)); clear c0; clear c10; clear c11; clear HB; have c0 := b0; have c10 := b1; have c11 := b2; have HB := b3; have c12 := b4; have B3 := b5; have n3 := b6; have g6 := b7; have g7 := b8; have g8 := b9; have g9 := b10; have g10 := b11; have g11 := b12; clear b0 b1 b2 b3 b4 b5 b6 b7 b8 b9 b10 b11 b12; clear hb C_ hg; have N4 := g7.out; have O4 := g6.out; have N5 := g9.out; have O5 := g8.out; have N6 := g11.out; have O6 := g10.out; obtain ⟨j49, j50, k52, k53⟩ := bz2_ c12.out) | ((with_reducible refine gate_callee (f := 64) rfl ?_); refine gl_ 82 Try.func64 #[.int .i64 ((rd_T36 o1 a6).f0), .int .i64 0, .int .i64 3] ?_; (with_reducible refine (impl_in.calls ((rd_T36 o1 a6).f0) 0 3 false _ y0.out).mono ?_); rintro e w' ⟨rfl, ⟨nd, rfl⟩⟩; refine ⟨_, rfl, ?_⟩))
           go_ret
           exact ⟨zq68_, zq70_⟩
         ·obtain rfl := Option.some.inj H
          go_wp2
          go_ret
          exact ⟨zq68_, zq71_⟩

end Go.Proofs.Ytgdafcakefnpdaa.PFnSerialOne

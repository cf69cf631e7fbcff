-- Laid by this session's program out of the translation (gen.sh).
import Derived.Test.YtgdafcakefnpdaaPFnExecDox0
import Derived.Test.YtgdafcakefnpdaaPFnExecDox10
namespace Go.Proofs.Ytgdafcakefnpdaa.PFnExecDo
open Go.RowKit Go.Proofs.YtgdafcakefnpdaaW.PrintWords Go.Proofs.YtgdafcakefnpdaaW.PrintLast Go.Proofs.YtgdafcakefnpdaaW.PrintMore
attribute [local go_sem] max2_int min2_int max_two min_two max_three min_three max_four min_four   -- for this text's walks alone
set_option linter.unusedVariables false
set_option linter.unusedSimpArgs false

/-! ### impl_ExecOk: function 20 -/
mutual
def impl_ExecOk.j0 : Nat → Bool → List (S48) → List (S36) → Int → Int → Option (Bool)
 | 0, _, _, _, _, _ => none
 | k + 1, x45, x365000, x365001, x365002, x365003 => if x45 = true then (some false) else (impl_ExecOk.l0 k x365000 (x365000.length : Int) 0 x365000 x365001 x365002 x365003 false false false false false false false false)
def impl_ExecOk.l0 : Nat → List (S48) → Int → Int → List (S48) → List (S36) → Int → Int → Bool → Bool → Bool → Bool → Bool → Bool → Bool → Bool → Option (Bool)
 | 0, _, _, _, _, _, _, _, _, _, _, _, _, _, _, _ => none
 | k + 1, x47, x48, x49, x365000, x365001, x365002, x365003, x368000, x368001, x368002, x368003, x369000, x369001, x369002, x369003 => if x49 < x48 then (if 0 ≤ x49 then (if x49 < (x47.length : Int) then ((impl_in.f ((rd_T48 x47 x49).f0) 0 3).bind fun t371 => (if t371 = true then (if 0 ≤ ((rd_T48 x47 x49).f0) then (if ((rd_T48 x47 x49).f0) < 4 then (if rdOf false [x368000, x368001, x368002, x368003] ((rd_T48 x47 x49).f0) = true then (some false) else ((impl_in.f ((rd_T48 x47 x49).f1) 0 1000000).bind fun t372 => (if t372 = true then (impl_ExecOk.l0 k x47 x48 (wrap64 (x49 + 1)) x365000 x365001 x365002 x365003 (ixB ((rd_T48 x47 x49).f0) 0 true x368000) (ixB ((rd_T48 x47 x49).f0) 1 true x368001) (ixB ((rd_T48 x47 x49).f0) 2 true x368002) (ixB ((rd_T48 x47 x49).f0) 3 true x368003) x369000 x369001 x369002 x369003) else (some false)))) else (none)) else (none)) else (some false))) else (none)) else (none)) else (impl_ExecOk.l1 k x365001 (x365001.length : Int) 0 x369000 x369001 x369002 x369003)
def impl_ExecOk.l1 : Nat → List (S36) → Int → Int → Bool → Bool → Bool → Bool → Option (Bool)
 | 0, _, _, _, _, _, _, _ => none
 | k + 1, x74, x75, x76, x369000, x369001, x369002, x369003 => if x76 < x75 then (if 0 ≤ x76 then (if x76 < (x74.length : Int) then ((impl_in.f ((rd_T36 x74 x76).f0) 0 3).bind fun t375 => (if t375 = true then (if 0 ≤ ((rd_T36 x74 x76).f0) then (if ((rd_T36 x74 x76).f0) < 4 then (if rdOf false [x369000, x369001, x369002, x369003] ((rd_T36 x74 x76).f0) = true then (some false) else ((impl_in.f ((rd_T36 x74 x76).f1) (-1000000) 1000000).bind fun t376 => (if t376 = true then (impl_ExecOk.l1 k x74 x75 (wrap64 (x76 + 1)) (ixB ((rd_T36 x74 x76).f0) 0 true x369000) (ixB ((rd_T36 x74 x76).f0) 1 true x369001) (ixB ((rd_T36 x74 x76).f0) 2 true x369002) (ixB ((rd_T36 x74 x76).f0) 3 true x369003)) else (some false)))) else (none)) else (none)) else (some false))) else (none)) else (none)) else (some true)
end
def impl_ExecOk.f (k : Nat) (l0_0 : List (S48)) (l0_1 : List (S36)) (a0_2 : Int) (a0_3 : Int) : Option (Bool) := (impl_in.f a0_3 0 3).bind fun t365 => (if t365 = true then ((impl_in.f a0_2 (-1000000) 1000000).bind fun t366 => (if t366 = true then (if a0_3 = 0 then (if a0_3 = 3 then (impl_ExecOk.j0 k (decide ((l0_0.length : Int) > 0)) l0_0 l0_1 a0_2 a0_3) else (impl_ExecOk.j0 k false l0_0 l0_1 a0_2 a0_3)) else (if a0_2 = 0 then (if (l0_1.length : Int) > 0 then (impl_ExecOk.j0 k true l0_0 l0_1 a0_2 a0_3) else (if a0_3 = 3 then (impl_ExecOk.j0 k (decide ((l0_0.length : Int) > 0)) l0_0 l0_1 a0_2 a0_3) else (impl_ExecOk.j0 k false l0_0 l0_1 a0_2 a0_3))) else (impl_ExecOk.j0 k true l0_0 l0_1 a0_2 a0_3))) else (impl_ExecOk.j0 k true l0_0 l0_1 a0_2 a0_3))) else (impl_ExecOk.j0 k true l0_0 l0_1 a0_2 a0_3))
theorem impl_ExecOk.mono_l : ∀ k, (∀ y0 y1 y2 y3 y4, LeO (impl_ExecOk.j0 k y0 y1 y2 y3 y4) (impl_ExecOk.j0 (k + 1) y0 y1 y2 y3 y4)) ∧ (∀ y0 y1 y2 y3 y4 y5 y6 y7 y8 y9 N0 N1 N2 N3 N4, LeO (impl_ExecOk.l0 k y0 y1 y2 y3 y4 y5 y6 y7 y8 y9 N0 N1 N2 N3 N4) (impl_ExecOk.l0 (k + 1) y0 y1 y2 y3 y4 y5 y6 y7 y8 y9 N0 N1 N2 N3 N4)) ∧ (∀ y0 y1 y2 y3 y4 y5 y6, LeO (impl_ExecOk.l1 k y0 y1 y2 y3 y4 y5 y6) (impl_ExecOk.l1 (k + 1) y0 y1 y2 y3 y4 y5 y6))
 | 0 => ⟨fun _ _ _ _ _ r h => by simp [impl_ExecOk.j0] at h, fun _ _ _ _ _ _ _ _ _ _ _ _ _ _ _ r h => by simp [impl_ExecOk.l0] at h, fun _ _ _ _ _ _ _ r h => by simp [impl_ExecOk.l1] at h⟩
 | k + 1 => by
  obtain ⟨J0, J1, J2⟩ := impl_ExecOk.mono_l k
  refine ⟨?_, ?_, ?_⟩
  ·intro y0 y1 y2 y3 y4
   unfold impl_ExecOk.j0
   repeat' first
   | (with_reducible exact J0 _ _ _ _ _)
   | (with_reducible exact J1 _ _ _ _ _ _ _ _ _ _ _ _ _ _ _)
   | (with_reducible exact J2 _ _ _ _ _ _ _)
   | (with_reducible exact LeO.refl _)
   | (with_reducible exact LeO.none _)
   | (with_reducible refine LeO.ite ?_ ?_)
   | (with_reducible refine LeO.bind ?_ (fun _ => ?_))
   | exact J0 _ _ _ _ _
   | exact J1 _ _ _ _ _ _ _ _ _ _ _ _ _ _ _
   | exact J2 _ _ _ _ _ _ _
   | exact LeO.none _
   | refine LeO.ite ?_ ?_
   | refine LeO.bind ?_ (fun _ => ?_)
  ·intro y0 y1 y2 y3 y4 y5 y6 y7 y8 y9 N0 N1 N2 N3 N4
   unfold impl_ExecOk.l0
   repeat' first
   | (with_reducible exact J0 _ _ _ _ _)
   | (with_reducible exact J1 _ _ _ _ _ _ _ _ _ _ _ _ _ _ _)
   | (with_reducible exact J2 _ _ _ _ _ _ _)
   | (with_reducible exact LeO.refl _)
   | (with_reducible exact LeO.none _)
   | (with_reducible refine LeO.ite ?_ ?_)
   | (with_reducible refine LeO.bind ?_ (fun _ => ?_))
   | exact J0 _ _ _ _ _
   | exact J1 _ _ _ _ _ _ _ _ _ _ _ _ _ _ _
   | exact J2 _ _ _ _ _ _ _
   | exact LeO.none _
   | refine LeO.ite ?_ ?_
   | refine LeO.bind ?_ (fun _ => ?_)
  ·intro y0 y1 y2 y3 y4 y5 y6
   unfold impl_ExecOk.l1
   repeat' first
   | (with_reducible exact J0 _ _ _ _ _)
   | (with_reducible exact J1 _ _ _ _ _ _ _ _ _ _ _ _ _ _ _)
   | (with_reducible exact J2 _ _ _ _ _ _ _)
   | (with_reducible exact LeO.refl _)
   | (with_reducible exact LeO.none _)
   | (with_reducible refine LeO.ite ?_ ?_)
   | (with_reducible refine LeO.bind ?_ (fun _ => ?_))
   | exact J0 _ _ _ _ _
   | exact J1 _ _ _ _ _ _ _ _ _ _ _ _ _ _ _
   | exact J2 _ _ _ _ _ _ _
   | exact LeO.none _
   | refine LeO.ite ?_ ?_
   | refine LeO.bind ?_ (fun _ => ?_)
theorem impl_ExecOk.mono : ∀ a0 a1 a2 a3 k, LeO (impl_ExecOk.f k a0 a1 a2 a3) (impl_ExecOk.f (k + 1) a0 a1 a2 a3) := by
 intro a0 a1 a2 a3 k
 obtain ⟨J0, J1, J2⟩ := impl_ExecOk.mono_l k
 unfold impl_ExecOk.f
 repeat' first
   | (with_reducible exact J0 _ _ _ _ _)
   | (with_reducible exact J1 _ _ _ _ _ _ _ _ _ _ _ _ _ _ _)
   | (with_reducible exact J2 _ _ _ _ _ _ _)
   | (with_reducible exact LeO.refl _)
   | (with_reducible exact LeO.none _)
   | (with_reducible refine LeO.ite ?_ ?_)
   | (with_reducible refine LeO.bind ?_ (fun _ => ?_))
   | exact J0 _ _ _ _ _
   | exact J1 _ _ _ _ _ _ _ _ _ _ _ _ _ _ _
   | exact J2 _ _ _ _ _ _ _
   | exact LeO.none _
   | refine LeO.ite ?_ ?_
   | refine LeO.bind ?_ (fun _ => ?_)
set_option maxHeartbeats 8000000 in
set_option maxRecDepth 100000 in
theorem impl_ExecOk.calls (k : Nat) (O0 : Option Addr) (I0 : Nat) (g0 : List (S48)) (O1 : Option Addr) (I1 : Nat) (g1 : List (S36)) (h0 : Int) (h1 : Int) (r : Bool) (w : World) (ar0 : Kd.C k48 w O0 g0.length g0) (au0 : g0.length ≤ I0) (ar1 : Kd.C k36 w O1 g1.length g1) (au1 : g1.length ≤ I1) (h : impl_ExecOk.f k g0 g1 h0 h1 = some r) :
  Calls Try.prog 20 #[.agg #[.slice O0 g0.length I0, .slice O1 g1.length I1, .int .i64 h0, .int .i64 h1]] w fun e w' => e = .returned (.bool r) ∧ Below w.heap.size w w' := by
 have aB0 := Try.underlying30; have aB1 := Try.underlying51; have aB2 := Try.underlying48; have aB3 := Try.underlying36; have af0 := Aside0.mk ar0; have aC0 := Aside0.mk au0; clear ar0 au0; have af1 := Aside0.mk ar1; have aC1 := Aside0.mk au1; clear ar1 au1; have HB := Aside0.mk (Below.refl w.heap.size w); have H : ((impl_in.f h1 0 3).bind fun a0 => (if a0 = true then ((impl_in.f h0 (-1000000) 1000000).bind fun a1 => (if a1 = true then (if h1 = 0 then (if h1 = 3 then (impl_ExecOk.j0 k (decide ((g0.length : Int) > 0)) g0 g1 h0 h1) else (impl_ExecOk.j0 k false g0 g1 h0 h1)) else (if h0 = 0 then (if (g1.length : Int) > 0 then (impl_ExecOk.j0 k true g0 g1 h0 h1) else (if h1 = 3 then (impl_ExecOk.j0 k (decide ((g0.length : Int) > 0)) g0 g1 h0 h1) else (impl_ExecOk.j0 k false g0 g1 h0 h1))) else (impl_ExecOk.j0 k true g0 g1 h0 h1))) else (impl_ExecOk.j0 k true g0 g1 h0 h1))) else (impl_ExecOk.j0 k true g0 g1 h0 h1))) = some r := h; clear h; have X0 := Aside0.mk H; clear H
 go_enter Try.func20, Try.ntmps20
 go_upto_region 1 with (first | ((with_reducible refine gate_dst (N := 1) rfl ?_); (try (refine gate_guard (by rfl) ?_; dsimp only)); refine bxe_ (N := 1) (cs := #[.slice O0 g0.length I0, .slice O1 g1.length I1, .int .i64 h0, .int .i64 h1]) (t := 30) ?_; intro c0 hg w3 H_ hb; have n_ := A4_ (below_step zq59_ hb) (H_) ((zq95_ : w.heap.size ≤ c0)) ((zq95_ : w.heap.size ≤ c0)); clear HB; obtain ⟨HB, b0, y0, p0⟩ := n_; clear hb H_ hg))
 (try simp only [Act.put, List.setIfInBounds_toArray, List.set_cons_zero, List.set_cons_succ])
 go_cut [45] (fun S0 wc => ∃ (kq : Nat) (e0 : Bool), S0 = .bool e0 ∧ Aside0 (impl_ExecOk.j0 kq e0 g0 g1 h0 h1 = some r) ∧ Aside0 (kq ≤ k) ∧ Aside0 (wc.heap[c0]? = some (.cells #[(.slice O0 g0.length I0), (.slice O1 g1.length I1), .int .i64 h0, .int .i64 h1] 30 (0, 0))) ∧ Aside0 (Below w.heap.size w wc))
 case first =>
  have H := X0.out; clear X0; replace H := bs_ H; obtain ⟨a0, A4, H⟩ := H; (try dsimp only at H); replace H := ifB_ H
  rcases H with ⟨rfl, H⟩ | ⟨rfl, H⟩
  ·replace H := bs_ H; obtain ⟨a1, A6, H⟩ := H; (try dsimp only at H); replace H := ifB_ H
   rcases H with ⟨rfl, H⟩ | ⟨rfl, H⟩
   ·by_cases c8 : h1 = 0
    ·rw [if_pos c8] at H; have u0 : (h1 == 0) = true := beq_iff_eq.mpr c8; have u1 : (h1 != 0) = false := bne_eq_false_iff_eq.mpr c8; clear c8; (first | rw [u0] | (simp only [i64_w, i32_w]; rw [u0]) | skip); by_cases c9 : h1 = 3
     ·rw [if_pos c9] at H; have u2 : (h1 == 3) = true := beq_iff_eq.mpr c9; have u3 : (h1 != 3) = false := bne_eq_false_iff_eq.mpr c9; clear c9; have H' := Aside0.mk H; clear H; obtain ⟨k0, k1, k4, k5, l2, l3, l4, l5⟩ := bz4_ b0.out
      go_wp2_with (first | ((with_reducible refine gate_callee (f := 64) rfl ?_); refine gl_ 11 Try.func64 #[.int .i64 h1, .int .i64 0, .int .i64 3] ?_; (with_reducible refine (impl_in.calls h1 0 3 true _ A4.out).mono ?_); rintro e w' ⟨rfl, ⟨nd, rfl⟩⟩; refine ⟨_, rfl, ?_⟩) | (go_at_call 64; (with_reducible refine (impl_in.calls h0 (-1000000) 1000000 true _ A6.out).mono ?_); rintro e w' ⟨rfl, ⟨nd, rfl⟩⟩; (try clear A6)))
      go_meet
      case rel => exact ⟨_, (decide ((g0.length : Int) > 0)), zq46_, H', ⟨zq44_⟩, ⟨zq1c_⟩, ⟨zq58_⟩⟩
     ·rw [if_neg c9] at H; have u2 : (h1 == 3) = false := beq_eq_false_iff_ne.mpr c9; have u3 : (h1 != 3) = true := bne_iff_ne.mpr c9; have H' := Aside0.mk H; clear H; obtain ⟨k0, k1, k4, k5, l2, l3, l4, l5⟩ := bz4_ b0.out
      go_wp2_with (first | ((with_reducible refine gate_callee (f := 64) rfl ?_); refine gl_ 11 Try.func64 #[.int .i64 h1, .int .i64 0, .int .i64 3] ?_; (with_reducible refine (impl_in.calls h1 0 3 true _ A4.out).mono ?_); rintro e w' ⟨rfl, ⟨nd, rfl⟩⟩; refine ⟨_, rfl, ?_⟩) | (go_at_call 64; (with_reducible refine (impl_in.calls h0 (-1000000) 1000000 true _ A6.out).mono ?_); rintro e w' ⟨rfl, ⟨nd, rfl⟩⟩; (try clear A6)))
      go_meet
      case rel => exact ⟨_, (false), zq46_, H', ⟨zq44_⟩, ⟨zq1c_⟩, ⟨zq58_⟩⟩
    ·rw [if_neg c8] at H; have u0 : (h1 == 0) = false := beq_eq_false_iff_ne.mpr c8; have u1 : (h1 != 0) = true := bne_iff_ne.mpr c8; (first | rw [u0] | (simp only [i64_w, i32_w]; rw [u0]) | skip); by_cases x0 : h0 = 0
     ·rw [if_pos x0] at H; have u2 : (h0 == 0) = true := beq_iff_eq.mpr x0; have u3 : (h0 != 0) = false := bne_eq_false_iff_eq.mpr x0; clear x0; by_cases x1 : (g1.length : Int) > 0
      ·rw [if_pos x1] at H; have u4 : decide (0 < (g1.length : Int)) = true := decide_eq_true x1; have u5 : decide (0 < g1.length) = true := decide_eq_true (by omega); clear x1; have H' := Aside0.mk H; clear H; obtain ⟨k0, k1, k4, k5, l2, l3, l4, l5⟩ := bz4_ b0.out
       go_wp2_with (first | ((with_reducible refine gate_callee (f := 64) rfl ?_); refine gl_ 11 Try.func64 #[.int .i64 h1, .int .i64 0, .int .i64 3] ?_; (with_reducible refine (impl_in.calls h1 0 3 true _ A4.out).mono ?_); rintro e w' ⟨rfl, ⟨nd, rfl⟩⟩; refine ⟨_, rfl, ?_⟩) | (go_at_call 64; (with_reducible refine (impl_in.calls h0 (-1000000) 1000000 true _ A6.out).mono ?_); rintro e w' ⟨rfl, ⟨nd, rfl⟩⟩; (try clear A6)))
       go_meet
       case rel => exact ⟨_, (true), zq46_, H', ⟨zq44_⟩, ⟨zq1c_⟩, ⟨zq58_⟩⟩
      ·rw [if_neg x1] at H; have u4 : decide (0 < (g1.length : Int)) = false := decide_eq_false x1; have u5 : decide (0 < g1.length) = false := decide_eq_false (by omega); clear x1; by_cases x2 : h1 = 3
       ·rw [if_pos x2] at H; have u6 : (h1 == 3) = true := beq_iff_eq.mpr x2; have u7 : (h1 != 3) = false := bne_eq_false_iff_eq.mpr x2; clear x2; have H' := Aside0.mk H; clear H; obtain ⟨k0, k1, k4, k5, l2, l3, l4, l5⟩ := bz4_ b0.out
        go_wp2_with (first | ((with_reducible refine gate_callee (f := 64) rfl ?_); refine gl_ 11 Try.func64 #[.int .i64 h1, .int .i64 0, .int .i64 3] ?_; (with_reducible refine (impl_in.calls h1 0 3 true _ A4.out).mono ?_); rintro e w' ⟨rfl, ⟨nd, rfl⟩⟩; refine ⟨_, rfl, ?_⟩) | (go_at_call 64; (with_reducible refine (impl_in.calls h0 (-1000000) 1000000 true _ A6.out).mono ?_); rintro e w' ⟨rfl, ⟨nd, rfl⟩⟩; (try clear A6)))
        go_meet
        case rel => exact ⟨_, (decide ((g0.length : Int) > 0)), zq46_, H', ⟨zq44_⟩, ⟨zq1c_⟩, ⟨zq58_⟩⟩
       ·rw [if_neg x2] at H; have u6 : (h1 == 3) = false := beq_eq_false_iff_ne.mpr x2; have u7 : (h1 != 3) = true := bne_iff_ne.mpr x2; have H' := Aside0.mk H; clear H; obtain ⟨k0, k1, k4, k5, l2, l3, l4, l5⟩ := bz4_ b0.out
        go_wp2_with (first | ((with_reducible refine gate_callee (f := 64) rfl ?_); refine gl_ 11 Try.func64 #[.int .i64 h1, .int .i64 0, .int .i64 3] ?_; (with_reducible refine (impl_in.calls h1 0 3 true _ A4.out).mono ?_); rintro e w' ⟨rfl, ⟨nd, rfl⟩⟩; refine ⟨_, rfl, ?_⟩) | (go_at_call 64; (with_reducible refine (impl_in.calls h0 (-1000000) 1000000 true _ A6.out).mono ?_); rintro e w' ⟨rfl, ⟨nd, rfl⟩⟩; (try clear A6)))
        go_meet
        case rel => exact ⟨_, (false), zq46_, H', ⟨zq44_⟩, ⟨zq1c_⟩, ⟨zq58_⟩⟩
     ·rw [if_neg x0] at H; have u2 : (h0 == 0) = false := beq_eq_false_iff_ne.mpr x0; have u3 : (h0 != 0) = true := bne_iff_ne.mpr x0; have H' := Aside0.mk H; clear H; obtain ⟨k0, k1, k4, k5, l2, l3, l4, l5⟩ := bz4_ b0.out
      go_wp2_with (first | ((with_reducible refine gate_callee (f := 64) rfl ?_); refine gl_ 11 Try.func64 #[.int .i64 h1, .int .i64 0, .int .i64 3] ?_; (with_reducible refine (impl_in.calls h1 0 3 true _ A4.out).mono ?_); rintro e w' ⟨rfl, ⟨nd, rfl⟩⟩; refine ⟨_, rfl, ?_⟩) | (go_at_call 64; (with_reducible refine (impl_in.calls h0 (-1000000) 1000000 true _ A6.out).mono ?_); rintro e w' ⟨rfl, ⟨nd, rfl⟩⟩; (try clear A6)))
      go_meet
      case rel => exact ⟨_, (true), zq46_, H', ⟨zq44_⟩, ⟨zq1c_⟩, ⟨zq58_⟩⟩
   ·have H' := Aside0.mk H; clear H; obtain ⟨k0, k1, k4, k5, l2, l3, l4, l5⟩ := bz4_ b0.out
    go_wp2_with (first | ((with_reducible refine gate_callee (f := 64) rfl ?_); refine gl_ 11 Try.func64 #[.int .i64 h1, .int .i64 0, .int .i64 3] ?_; (with_reducible refine (impl_in.calls h1 0 3 true _ A4.out).mono ?_); rintro e w' ⟨rfl, ⟨nd, rfl⟩⟩; refine ⟨_, rfl, ?_⟩) | (go_at_call 64; (with_reducible refine (impl_in.calls h0 (-1000000) 1000000 false _ A6.out).mono ?_); rintro e w' ⟨rfl, ⟨nd, rfl⟩⟩; (try clear A6)))
    go_meet
    case rel => exact ⟨_, (true), zq46_, H', ⟨zq44_⟩, ⟨zq1c_⟩, ⟨zq58_⟩⟩
  ·have H' := Aside0.mk H; clear H; obtain ⟨k0, k1, k4, k5, l2, l3, l4, l5⟩ := bz4_ b0.out
   go_wp2_with (first | ((with_reducible refine gate_callee (f := 64) rfl ?_); refine gl_ 11 Try.func64 #[.int .i64 h1, .int .i64 0, .int .i64 3] ?_; (with_reducible refine (impl_in.calls h1 0 3 false _ A4.out).mono ?_); rintro e w' ⟨rfl, ⟨nd, rfl⟩⟩; refine ⟨_, rfl, ?_⟩))
   go_meet
   case rel => exact ⟨_, (true), zq46_, H', ⟨zq44_⟩, ⟨zq1c_⟩, ⟨zq58_⟩⟩
 case rest =>
  clear X0
  try clear c1
  try clear c2
  try clear p2
  try clear c5
  try clear c6
  try clear c7
  try clear c8
  try clear u0
  try clear u1
  try clear c9
  try clear u2
  try clear u3
  try clear x0
  try clear u4
  try clear u5
  try clear x1
  try clear u6
  try clear u7
  try clear x2
  try clear u8
  try clear u9
  try clear c20
  try clear k0 k1 k4 k5 l2 l3 l4 l5
  try clear k6 k7 k8 k9 l6 l7 l8 l9
  try clear k10 k11 k12 k13 l10 l11 l12 l13
  try clear k14 k15 k16 k17 l14 l15 l16 l17
  try clear k18 k19 k20 k21 l18 l19 l20 l21
  try clear k22 k23 k24 k25 l22 l23 l24 l25
  try clear k26 k27 k28 k29 l26 l27 l28 l29
  try clear k30 k31 k32 k33 l30 l31 l32 l33
  obtain ⟨kq, e0, rfl, HA, av0, b0, HB⟩ := hcut
  cases kq with
  | zero => exact absurd HA.out (by simp [impl_ExecOk.j0])
  | succ kj1 =>
   have H := HA.out; clear HA; simp only [impl_ExecOk.j0] at H; replace H := ifB_ H
   rcases H with ⟨rfl, H⟩ | ⟨rfl, H⟩
   ·obtain rfl := Option.some.inj H
    go_wp2
    go_ret
    exact ⟨zq45_, zq58_⟩
   ·have H' := Aside0.mk H; clear H
    go_wp2_with (first | ((with_reducible refine gate_dst (N := 3) rfl ?_); (try (refine gate_guard (by rfl) ?_; dsimp only)); refine bxe_ (N := 3) (cs := #[.bool false, .bool false, .bool false, .bool false]) (t := 51) ?_; intro c10 hg r0 H_ hb; have n_ := A7_ (blk_below (g := c0) (o := .cells #[.slice O0 g0.length I0, .slice O1 g1.length I1, .int .i64 h0, .int .i64 h1] 30 (0, 0)) zq1c_ hb) (below_step zq58_ hb) (H_) ((zq94_ : w.heap.size ≤ c10)) ((zq94_ : w.heap.size ≤ c10)) ((zqaf_ : c0 ≠ c10)) ((zq9e_ : c10 ≠ c0)); clear b0 HB; obtain ⟨b0, HB, b1, y1, p1, i0, i1⟩ := n_; clear hb H_ hg) | ((with_reducible refine gate_dst (N := 4) rfl ?_); (try (refine gate_guard (by rfl) ?_; dsimp only)); refine bxe_ (N := 4) (cs := #[.bool false, .bool false, .bool false, .bool false]) (t := 51) ?_; intro c11 hg r1 H_ hb; have d0 := Aside0.mk (blk_below (g := c0) (o := .cells #[.slice O0 g0.length I0, .slice O1 g1.length I1, .int .i64 h0, .int .i64 h1] 30 (0, 0)) zq1c_ hb); have d1 := Aside0.mk (blk_below (g := c10) (o := .cells #[.bool false, .bool false, .bool false, .bool false] 51 (0, 0)) zq1d_ hb); have d2 := Aside0.mk (below_step zq54_ hb); have d3 := Aside0.mk (H_); have d4 := Aside0.mk ((zq93_ : w.heap.size ≤ c11)); have d5 := Aside0.mk ((zq93_ : w.heap.size ≤ c11)); have d6 := Aside0.mk ((zqaf_ : c0 ≠ c11)); have d7 := Aside0.mk ((zq9e_ : c11 ≠ c0)); have d8 := Aside0.mk ((by rw [hg]; exact Nat.ne_of_lt (blk_lt (g := c10) (o := .cells #[.bool false, .bool false, .bool false, .bool false] 51 (0, 0)) zq1d_) : c10 ≠ c11)); have d9 := Aside0.mk ((by rw [hg]; exact Nat.ne_of_gt (blk_lt (g := c10) (o := .cells #[.bool false, .bool false, .bool false, .bool false] 51 (0, 0)) zq1d_) : c11 ≠ c10)); clear b0; clear b1; clear HB; have b0 := d0; have b1 := d1; have HB := d2; have b2 := d3; have y2 := d4; have p7 := d5; have i2 := d6; have i3 := d7; have i4 := d8; have i5 := d9; clear d0 d1 d2 d3 d4 d5 d6 d7 d8 d9; clear hb H_ hg; have T0 := i0.out; have U0 := i1.out; have T1 := i2.out; have U1 := i3.out; obtain ⟨k34, k35, k37, k38, l34, l35, l36, l37⟩ := bz4_ b0.out))
    go_loopg [49] kj1 (fun kq S1 w' => ∃ (e1 : Int) (e2 : Bool) (e3 : Bool) (e4 : Bool) (e5 : Bool), S1 = .int .i64 e1 ∧ Aside0 (impl_ExecOk.l0 kq g0 (g0.length : Int) e1 g0 g1 h0 h1 e2 e3 e4 e5 false false false false = some r) ∧ Aside0 (kq ≤ kj1) ∧ Aside0 (w'.heap[c0]? = some (.cells #[(.slice O0 g0.length I0), (.slice O1 g1.length I1), .int .i64 h0, .int .i64 h1] 30 (0, 0))) ∧ Aside0 (w'.heap[c10]? = some (.cells #[.bool e2, .bool e3, .bool e4, .bool e5] 51 (0, 0))) ∧ Aside0 (w'.heap[c11]? = some (.cells #[.bool false, .bool false, .bool false, .bool false] 51 (0, 0))) ∧ Aside0 (Below w.heap.size w w'))
    case atStart => exact ⟨(0), (false), (false), (false), (false), zq46_, H', ⟨Nat.le_refl _⟩, ⟨zq1c_⟩, ⟨zq1d_⟩, ⟨zq1e_⟩, ⟨zq53_⟩⟩
    case round =>
     clear H'
     try clear c1
     try clear c2
     try clear p2
     try clear c5
     try clear c6
     try clear c7
     try clear c8
     try clear u0
     try clear u1
     try clear c9
     try clear u2
     try clear u3
     try clear x0
     try clear u4
     try clear u5
     try clear x1
     try clear u6
     try clear u7
     try clear x2
     try clear u8
     try clear u9
     try clear c20
     try clear c21
     try clear c24
     try clear c25
     try clear k0 k1 k4 k5 l2 l3 l4 l5
     try clear k6 k7 k8 k9 l6 l7 l8 l9
     try clear k10 k11 k12 k13 l10 l11 l12 l13
     try clear k14 k15 k16 k17 l14 l15 l16 l17
     try clear k18 k19 k20 k21 l18 l19 l20 l21
     try clear k22 k23 k24 k25 l22 l23 l24 l25
     try clear k26 k27 k28 k29 l26 l27 l28 l29
     try clear k30 k31 k32 k33 l30 l31 l32 l33
     try clear k34 k35 k37 k38 l34 l35 l36 l37
     try clear p2
     obtain ⟨e1, e2, e3, e4, e5, rfl, HA, Z0, b0, b1, b2, HB⟩ := hrel
     cases gk with
     | zero => exact absurd HA.out (by simp [impl_ExecOk.l0])
     | succ k2 =>
      have H := HA.out; clear HA; simp only [impl_ExecOk.l0] at H; replace H := ifc_ H
      rcases H with ⟨c27b0, H⟩ | ⟨c27b0, H⟩
      ·replace H := ifd2_ H; obtain ⟨u10, u11, H⟩ := H; replace H := bs_ H; obtain ⟨a2, G0, H⟩ := H; (try dsimp only at H); replace H := ifB_ H
       rcases H with ⟨rfl, H⟩ | ⟨rfl, H⟩
       ·replace H := ifd2_ H; obtain ⟨u12, u13, H⟩ := H; obtain ⟨bE0, bo0⟩ : ∃ b_ : Bool, b_ = (rdOf false [e2, e3, e4, e5] ((rd_T48 g0 e1).f0)) := ⟨_, rfl⟩; replace H : (if bE0 = true then (some false) else ((impl_in.f ((rd_T48 g0 e1).f1) 0 1000000).bind fun a3 => (if a3 = true then (impl_ExecOk.l0 k2 g0 (g0.length : Int) (wrap64 (e1 + 1)) g0 g1 h0 h1 (ixB ((rd_T48 g0 e1).f0) 0 true e2) (ixB ((rd_T48 g0 e1).f0) 1 true e3) (ixB ((rd_T48 g0 e1).f0) 2 true e4) (ixB ((rd_T48 g0 e1).f0) 3 true e5) false false false false) else (some false)))) = some r := by rw [← bo0] at H; exact H
        have bk0 := Aside0.mk bo0; clear bo0; replace H := ifB_ H
        rcases H with ⟨rfl, H⟩ | ⟨rfl, H⟩
        ·obtain rfl := Option.some.inj H; have t0 : 0 ≤ (e1 : Int) := of_decide_eq_true zq41_; have s0 : e1 < (g0.length : Int) := of_decide_eq_true zq41_; obtain ⟨v0, M0, n0, n1⟩ := at_T48 af0.out e1 t0 s0; cases M0; replace n0 := pb_ HB.out n0; replace n1 := pb_ HB.out n1; replace t0 := eq_true t0; replace s0 := eq_true s0
         go_wp2_with (first | ((with_reducible refine gate_dst (N := 6) rfl ?_); (try (refine gate_guard (by rfl) ?_; dsimp only)); refine bxe_ (N := 6) (cs := #[.int .i64 0, .int .i64 0]) (t := 48) ?_; intro c12 hg r2 H_ hb; have d0 := Aside0.mk (blk_below (g := c0) (o := .cells #[.slice (some v0) g0.length I0, .slice O1 g1.length I1, .int .i64 h0, .int .i64 h1] 30 (0, 0)) zq1c_ hb); have d1 := Aside0.mk (blk_below (g := c10) (o := .cells #[.bool e2, .bool e3, .bool e4, .bool e5] 51 (0, 0)) zq1d_ hb); have d2 := Aside0.mk (blk_below (g := c11) (o := .cells #[.bool false, .bool false, .bool false, .bool false] 51 (0, 0)) zq1e_ hb); have d3 := Aside0.mk (below_step zq53_ hb); have d4 := Aside0.mk (H_); have d5 := Aside0.mk ((zq92_ : w.heap.size ≤ c12)); have d6 := Aside0.mk ((zq92_ : w.heap.size ≤ c12)); have d7 := Aside0.mk ((zqad_ : c0 ≠ c12)); have d8 := Aside0.mk ((zq9c_ : c12 ≠ c0)); have d9 := Aside0.mk ((zqb3_ : c10 ≠ c12)); have d10 := Aside0.mk ((zqa2_ : c12 ≠ c10)); have d11 := Aside0.mk ((zqb5_ : c11 ≠ c12)); have d12 := Aside0.mk ((zqa4_ : c12 ≠ c11)); clear b0; clear b1; clear b2; clear HB; have b0 := d0; have b1 := d1; have b2 := d2; have HB := d3; have b3 := d4; have y3 := d5; have p8 := d6; have i6 := d7; have i7 := d8; have i8 := d9; have i9 := d10; have i10 := d11; have i11 := d12; clear d0 d1 d2 d3 d4 d5 d6 d7 d8 d9 d10 d11 d12; clear hb H_ hg; have T2 := i7.out; have U2 := i6.out; have T3 := i9.out; have U3 := i8.out; have T4 := i11.out; have U4 := i10.out; obtain ⟨k39, k40, l38, l39⟩ := bz2_ b3.out) | ((with_reducible refine gate_callee (f := 64) rfl ?_); refine gl_ 55 Try.func64 #[.int .i64 ((rd_T48 g0 e1).f0), .int .i64 0, .int .i64 3] ?_; (with_reducible refine (impl_in.calls ((rd_T48 g0 e1).f0) 0 3 true _ G0.out).mono ?_); rintro e w' ⟨rfl, ⟨nd, rfl⟩⟩; refine ⟨_, rfl, ?_⟩; have T5 := i1.out; have U5 := i0.out; have T6 := i4.out; have U6 := i5.out; have aK0 : 0 ≤ ((rd_T48 g0 e1).f0) := of_decide_eq_true zq41_; have aL0 : ((rd_T48 g0 e1).f0) < 4 := of_decide_eq_true zq41_; have aZ0 := ixcellB4 (w := r2) ((rd_T48 g0 e1).f0) aK0 aL0 b1.out; have bp0 := blk_frozen b1.out ((rd_T48 g0 e1).f0).toNat; have bq0 := eq_true aK0; have br0 := eq_true aL0; (try rw [← bk0.out] at aZ0)))
         go_ret
         exact ⟨zq45_, zq52_⟩
        ·replace H := bs_ H; obtain ⟨a3, G1, H⟩ := H; (try dsimp only at H); replace H := ifB_ H
         rcases H with ⟨rfl, H⟩ | ⟨rfl, H⟩
         ·have H' := Aside0.mk H; clear H; have t0 : 0 ≤ (e1 : Int) := of_decide_eq_true zq41_; have s0 : e1 < (g0.length : Int) := of_decide_eq_true zq41_; obtain ⟨v0, M0, n0, n1⟩ := at_T48 af0.out e1 t0 s0; cases M0; replace n0 := pb_ HB.out n0; replace n1 := pb_ HB.out n1; replace t0 := eq_true t0; replace s0 := eq_true s0
          go_wp2_with (first | ((with_reducible refine gate_dst (N := 6) rfl ?_); (try (refine gate_guard (by rfl) ?_; dsimp only)); refine bxe_ (N := 6) (cs := #[.int .i64 0, .int .i64 0]) (t := 48) ?_; intro c12 hg r2 H_ hb; have d0 := Aside0.mk (blk_below (g := c0) (o := .cells #[.slice (some v0) g0.length I0, .slice O1 g1.length I1, .int .i64 h0, .int .i64 h1] 30 (0, 0)) zq1c_ hb); have d1 := Aside0.mk (blk_below (g := c10) (o := .cells #[.bool e2, .bool e3, .bool e4, .bool e5] 51 (0, 0)) zq1d_ hb); have d2 := Aside0.mk (blk_below (g := c11) (o := .cells #[.bool false, .bool false, .bool false, .bool false] 51 (0, 0)) zq1e_ hb); have d3 := Aside0.mk (below_step zq53_ hb); have d4 := Aside0.mk (H_); have d5 := Aside0.mk ((zq92_ : w.heap.size ≤ c12)); have d6 := Aside0.mk ((zq92_ : w.heap.size ≤ c12)); have d7 := Aside0.mk ((zqad_ : c0 ≠ c12)); have d8 := Aside0.mk ((zq9c_ : c12 ≠ c0)); have d9 := Aside0.mk ((zqb3_ : c10 ≠ c12)); have d10 := Aside0.mk ((zqa2_ : c12 ≠ c10)); have d11 := Aside0.mk ((zqb5_ : c11 ≠ c12)); have d12 := Aside0.mk ((zqa4_ : c12 ≠ c11)); clear b0; clear b1; clear b2; clear HB; have b0 := d0; have b1 := d1; have b2 := d2; have HB := d3; have b3 := d4; have y3 := d5; have p8 := d6; have i6 := d7; have i7 := d8; have i8 := d9; have i9 := d10; have i10 := d11; have i11 := d12; clear d0 d1 d2 d3 d4 d5 d6 d7 d8 d9 d10 d11 d12; clear hb H_ hg; have T2 := i7.out; have U2 := i6.out; have T3 := i9.out; have U3 := i8.out; have T4 := i11.out; have U4 := i10.out; obtain ⟨k39, k40, l38, l39⟩ := bz2_ b3.out) | ((with_reducible refine gate_callee (f := 64) rfl ?_); refine gl_ 55 Try.func64 #[.int .i64 ((rd_T48 g0 e1).f0), .int .i64 0, .int .i64 3] ?_; (with_reducible refine (impl_in.calls ((rd_T48 g0 e1).f0) 0 3 true _ G0.out).mono ?_); rintro e w' ⟨rfl, ⟨nd, rfl⟩⟩; refine ⟨_, rfl, ?_⟩; have T5 := i1.out; have U5 := i0.out; have T6 := i4.out; have U6 := i5.out; have aK0 : 0 ≤ ((rd_T48 g0 e1).f0) := of_decide_eq_true zq41_; have aL0 : ((rd_T48 g0 e1).f0) < 4 := of_decide_eq_true zq41_; have aZ0 := ixcellB4 (w := r2) ((rd_T48 g0 e1).f0) aK0 aL0 b1.out; have bp0 := blk_frozen b1.out ((rd_T48 g0 e1).f0).toNat; have bq0 := eq_true aK0; have br0 := eq_true aL0; (try rw [← bk0.out] at aZ0)) | (go_at_call 64; (with_reducible refine (impl_in.calls ((rd_T48 g0 e1).f1) 0 1000000 true _ G1.out).mono ?_); rintro e w' ⟨rfl, ⟨nd, rfl⟩⟩; (try clear G1); have aK1 : 0 ≤ ((rd_T48 g0 e1).f0) := of_decide_eq_true zq41_; have aL1 : ((rd_T48 g0 e1).f0) < 4 := of_decide_eq_true zq41_; have aZ1 := ixcellB4 (w := r2) ((rd_T48 g0 e1).f0) aK1 aL1 b1.out; have bp1 := blk_frozen b1.out ((rd_T48 g0 e1).f0).toNat; have bq1 := eq_true aK1; have br1 := eq_true aL1; (try rw [← bk0.out] at aZ1)) | ((with_reducible refine gate_store (t := 4) (p := 71) rfl ?_); refine store_event (t := 4) (p := 71) (v := ?vo_w55) (w1 := ?wo_w55) ?hg ?ho ?hn ?hr ?_; (case ho => rfl); (case hg => rfl); (case hn => rfl); (case hr => first | (go_simp; done) | (go_simp; rfl)); intro r3 hw; have d0 : Aside0 (r3.heap[c0]? = some (.cells #[.slice (some v0) g0.length I0, .slice O1 g1.length I1, .int .i64 h0, .int .i64 h1] 30 (0, 0))) := ⟨(by rw [hw]; exact (by (with_reducible repeat (first | refine blk_drewN ?_ _ | refine blk_drew ?_ | refine blk_alloc ?_ _)); refine blk_far ?_ i0.out _; (with_reducible repeat (first | refine blk_drewN ?_ _ | refine blk_drew ?_ | refine blk_alloc ?_ _)); refine blk_far ?_ i6.out _; (with_reducible repeat (first | refine blk_drewN ?_ _ | refine blk_drew ?_ | refine blk_alloc ?_ _)); refine blk_far ?_ i6.out _; (with_reducible repeat (first | refine blk_drewN ?_ _ | refine blk_drew ?_ | refine blk_alloc ?_ _)); exact b0.out))⟩; have d1 : Aside0 (r3.heap[c10]? = some (.cells #[.bool (ixB ((rd_T48 g0 e1).f0) 0 true e2), .bool (ixB ((rd_T48 g0 e1).f0) 1 true e3), .bool (ixB ((rd_T48 g0 e1).f0) 2 true e4), .bool (ixB ((rd_T48 g0 e1).f0) 3 true e5)] 51 (0, 0))) := ⟨(by rw [hw]; exact (by (with_reducible repeat (first | refine blk_drewN ?_ _ | refine blk_drew ?_ | refine blk_alloc ?_ _)); refine blk_put (cs := #[.bool e2, .bool e3, .bool e4, .bool e5]) ?_ ((rd_T48 g0 e1).f0).toNat _ (ixputB4 ((rd_T48 g0 e1).f0) true e2 e3 e4 e5 aK1 aL1); (with_reducible repeat (first | refine blk_drewN ?_ _ | refine blk_drew ?_ | refine blk_alloc ?_ _)); refine blk_far ?_ i8.out _; (with_reducible repeat (first | refine blk_drewN ?_ _ | refine blk_drew ?_ | refine blk_alloc ?_ _)); refine blk_far ?_ i8.out _; (with_reducible repeat (first | refine blk_drewN ?_ _ | refine blk_drew ?_ | refine blk_alloc ?_ _)); exact b1.out))⟩; have d2 : Aside0 (r3.heap[c11]? = some (.cells #[.bool false, .bool false, .bool false, .bool false] 51 (0, 0))) := ⟨(by rw [hw]; exact (by (with_reducible repeat (first | refine blk_drewN ?_ _ | refine blk_drew ?_ | refine blk_alloc ?_ _)); refine blk_far ?_ i5.out _; (with_reducible repeat (first | refine blk_drewN ?_ _ | refine blk_drew ?_ | refine blk_alloc ?_ _)); refine blk_far ?_ i10.out _; (with_reducible repeat (first | refine blk_drewN ?_ _ | refine blk_drew ?_ | refine blk_alloc ?_ _)); refine blk_far ?_ i10.out _; (with_reducible repeat (first | refine blk_drewN ?_ _ | refine blk_drew ?_ | refine blk_alloc ?_ _)); exact b2.out))⟩; have d3 : Aside0 (r3.heap[c12]? = some (.cells #[.int .i64 ((rd_T48 g0 e1).f0), .int .i64 ((rd_T48 g0 e1).f1)] 48 (0, 0))) := ⟨(by rw [hw]; exact (by (with_reducible repeat (first | refine blk_drewN ?_ _ | refine blk_drew ?_ | refine blk_alloc ?_ _)); refine blk_far ?_ i9.out _; (with_reducible repeat (first | refine blk_drewN ?_ _ | refine blk_drew ?_ | refine blk_alloc ?_ _)); refine blk_put (cs := #[.int .i64 ((rd_T48 g0 e1).f0), .int .i64 0]) ?_ 1 _ rfl; (with_reducible repeat (first | refine blk_drewN ?_ _ | refine blk_drew ?_ | refine blk_alloc ?_ _)); refine blk_put (cs := #[.int .i64 0, .int .i64 0]) ?_ 0 _ rfl; (with_reducible repeat (first | refine blk_drewN ?_ _ | refine blk_drew ?_ | refine blk_alloc ?_ _)); exact b3.out))⟩; have d4 : Aside0 (Below w.heap.size w r3) := ⟨(by rw [hw]; exact zq52_)⟩; clear hw; clear b0; clear b1; clear b2; clear b3; clear HB; have b0 := d0; have b1 := d1; have b2 := d2; have b3 := d3; have HB := d4; clear d0 d1 d2 d3 d4))
          go_roundg k2
          case measure => have := av0.out; have := Z0.out; omega
          case rel => exact ⟨(wrap64 (e1 + 1)), ((ixB ((rd_T48 g0 e1).f0) 0 true e2)), ((ixB ((rd_T48 g0 e1).f0) 1 true e3)), ((ixB ((rd_T48 g0 e1).f0) 2 true e4)), ((ixB ((rd_T48 g0 e1).f0) 3 true e5)), zq46_, H', ⟨zq4a_⟩, ⟨zq1c_⟩, ⟨zq1d_⟩, ⟨zq1e_⟩, ⟨zq52_⟩⟩
         ·obtain rfl := Option.some.inj H; have t0 : 0 ≤ (e1 : Int) := of_decide_eq_true zq41_; have s0 : e1 < (g0.length : Int) := of_decide_eq_true zq41_; obtain ⟨v0, M0, n0, n1⟩ := at_T48 af0.out e1 t0 s0; cases M0; replace n0 := pb_ HB.out n0; replace n1 := pb_ HB.out n1; replace t0 := eq_true t0; replace s0 := eq_true s0
          go_wp2_with (first | ((with_reducible refine gate_dst (N := 6) rfl ?_); (try (refine gate_guard (by rfl) ?_; dsimp only)); refine bxe_ (N := 6) (cs := #[.int .i64 0, .int .i64 0]) (t := 48) ?_; intro c12 hg r2 H_ hb; have d0 := Aside0.mk (blk_below (g := c0) (o := .cells #[.slice (some v0) g0.length I0, .slice O1 g1.length I1, .int .i64 h0, .int .i64 h1] 30 (0, 0)) zq1c_ hb); have d1 := Aside0.mk (blk_below (g := c10) (o := .cells #[.bool e2, .bool e3, .bool e4, .bool e5] 51 (0, 0)) zq1d_ hb); have d2 := Aside0.mk (blk_below (g := c11) (o := .cells #[.bool false, .bool false, .bool false, .bool false] 51 (0, 0)) zq1e_ hb); have d3 := Aside0.mk (below_step zq53_ hb); have d4 := Aside0.mk (H_); have d5 := Aside0.mk ((zq92_ : w.heap.size ≤ c12)); have d6 := Aside0.mk ((zq92_ : w.heap.size ≤ c12)); have d7 := Aside0.mk ((zqad_ : c0 ≠ c12)); have d8 := Aside0.mk ((zq9c_ : c12 ≠ c0)); have d9 := Aside0.mk ((zqb3_ : c10 ≠ c12)); have d10 := Aside0.mk ((zqa2_ : c12 ≠ c10)); have d11 := Aside0.mk ((zqb5_ : c11 ≠ c12)); have d12 := Aside0.mk ((zqa4_ : c12 ≠ c11)); clear b0; clear b1; clear b2; clear HB; have b0 := d0; have b1 := d1; have b2 := d2; have HB := d3; have b3 := d4; have y3 := d5; have p8 := d6; have i6 := d7; have i7 := d8; have i8 := d9; have i9 := d10; have i10 := d11; have i11 := d12; clear d0 d1 d2 d3 d4 d5 d6 d7 d8 d9 d10 d11 d12; clear hb H_ hg; have T2 := i7.out; have U2 := i6.out; have T3 := i9.out; have U3 := i8.out; have T4 := i11.out; have U4 := i10.out; obtain ⟨k39, k40, l38, l39⟩ := bz2_ b3.out) | ((with_reducible refine gate_callee (f := 64) rfl ?_); refine gl_ 55 Try.func64 #[.int .i64 ((rd_T48 g0 e1).f0), .int .i64 0, .int .i64 3] ?_; (with_reducible refine (impl_in.calls ((rd_T48 g0 e1).f0) 0 3 true _ G0.out).mono ?_); rintro e w' ⟨rfl, ⟨nd, rfl⟩⟩; refine ⟨_, rfl, ?_⟩; have T5 := i1.out; have U5 := i0.out; have T6 := i4.out; have U6 := i5.out; have aK0 : 0 ≤ ((rd_T48 g0 e1).f0) := of_decide_eq_true zq41_; have aL0 : ((rd_T48 g0 e1).f0) < 4 := of_decide_eq_true zq41_; have aZ0 := ixcellB4 (w := r2) ((rd_T48 g0 e1).f0) aK0 aL0 b1.out; have bp0 := blk_frozen b1.out ((rd_T48 g0 e1).f0).toNat; have bq0 := eq_true aK0; have br0 := eq_true aL0; (try rw [← bk0.out] at aZ0)) | (go_at_call 64; (with_reducible refine (impl_in.calls ((rd_T48 g0 e1).f1) 0 1000000 false _ G1.out).mono ?_); rintro e w' ⟨rfl, ⟨nd, rfl⟩⟩; (try clear G1)))
          go_ret
          exact ⟨zq45_, zq52_⟩
       ·obtain rfl := Option.some.inj H; have t0 : 0 ≤ (e1 : Int) := of_decide_eq_true zq41_; have s0 : e1 < (g0.length : Int) := of_decide_eq_true zq41_; obtain ⟨v0, M0, n0, n1⟩ := at_T48 af0.out e1 t0 s0; cases M0; replace n0 := pb_ HB.out n0; replace n1 := pb_ HB.out n1; replace t0 := eq_true t0; replace s0 := eq_true s0
        go_wp2_with (first | ((with_reducible refine gate_dst (N := 6) rfl ?_); (try (refine gate_guard (by rfl) ?_; dsimp only)); refine bxe_ (N := 6) (cs := #[.int .i64 0, .int .i64 0]) (t := 48) ?_; intro c12 hg r2 H_ hb; have d0 := Aside0.mk (blk_below (g := c0) (o := .cells #[.slice (some v0) g0.length I0, .slice O1 g1.length I1, .int .i64 h0, .int .i64 h1] 30 (0, 0)) zq1c_ hb); have d1 := Aside0.mk (blk_below (g := c10) (o := .cells #[.bool e2, .bool e3, .bool e4, .bool e5] 51 (0, 0)) zq1d_ hb); have d2 := Aside0.mk (blk_below (g := c11) (o := .cells #[.bool false, .bool false, .bool false, .bool false] 51 (0, 0)) zq1e_ hb); have d3 := Aside0.mk (below_step zq53_ hb); have d4 := Aside0.mk (H_); have d5 := Aside0.mk ((zq92_ : w.heap.size ≤ c12)); have d6 := Aside0.mk ((zq92_ : w.heap.size ≤ c12)); have d7 := Aside0.mk ((zqad_ : c0 ≠ c12)); have d8 := Aside0.mk ((zq9c_ : c12 ≠ c0)); have d9 := Aside0.mk ((zqb3_ : c10 ≠ c12)); have d10 := Aside0.mk ((zqa2_ : c12 ≠ c10)); have d11 := Aside0.mk ((zqb5_ : c11 ≠ c12)); have d12 := Aside0.mk ((zqa4_ : c12 ≠ c11)); clear b0; clear b1; clear b2; clear HB; have b0 := d0; have b1 := d1; have b2 := d2; have HB := d3; have b3 := d4; have y3 := d5; have p8 := d6; have i6 := d7; have i7 := d8; have i8 := d9; have i9 := d10; have i10 := d11; have i11 := d12; clear d0 d1 d2 d3 d4 d5 d6 d7 d8 d9 d10 d11 d12; clear hb H_ hg; have T2 := i7.out; have U2 := i6.out; have T3 := i9.out; have U3 := i8.out; have T4 := i11.out; have U4 := i10.out; obtain ⟨k39, k40, l38, l39⟩ := bz2_ b3.out) | ((with_reducible refine gate_callee (f := 64) rfl ?_); refine gl_ 55 Try.func64 #[.int .i64 ((rd_T48 g0 e1).f0), .int .i64 0, .int .i64 3] ?_; (with_reducible refine (impl_in.calls ((rd_T48 g0 e1).f0) 0 3 false _ G0.out).mono ?_); rintro e w' ⟨rfl, ⟨nd, rfl⟩⟩; refine ⟨_, rfl, ?_⟩))
        go_ret
        exact ⟨zq45_, zq52_⟩
      ·have H' := Aside0.mk H; clear H; have T2 := i0.out; have U2 := i1.out; have T3 := i2.out; have U3 := i3.out; obtain ⟨k39, k40, k41, k42, l38, l39, l40, l41⟩ := bz4_ b0.out
       go_wp2
       go_loopg [76] k2 (fun kq S2 w' => ∃ (e6 : Int) (e7 : Bool) (e8 : Bool) (e9 : Bool) (e10 : Bool), S2 = .int .i64 e6 ∧ Aside0 (impl_ExecOk.l1 kq g1 (g1.length : Int) e6 e7 e8 e9 e10 = some r) ∧ Aside0 (kq ≤ k2) ∧ Aside0 (w'.heap[c0]? = some (.cells #[(.slice O0 g0.length I0), (.slice O1 g1.length I1), .int .i64 h0, .int .i64 h1] 30 (0, 0))) ∧ Aside0 (w'.heap[c10]? = some (.cells #[.bool e2, .bool e3, .bool e4, .bool e5] 51 (0, 0))) ∧ Aside0 (w'.heap[c11]? = some (.cells #[.bool e7, .bool e8, .bool e9, .bool e10] 51 (0, 0))) ∧ Aside0 (Below w.heap.size w w'))
       case atStart => exact ⟨(0), (false), (false), (false), (false), zq46_, H', ⟨Nat.le_refl _⟩, ⟨zq1c_⟩, ⟨zq1d_⟩, ⟨zq1e_⟩, ⟨zq53_⟩⟩
       case round =>
        clear H'
        try clear c1
        try clear c2
        try clear p2
        try clear c3
        try clear p3
        try clear q3
        try clear hx3
        try clear c4
        try clear p4
        try clear q4
        try clear c5
        try clear p5
        try clear q5
        try clear c6
        try clear p6
        try clear q6
        try clear c7
        try clear c8
        try clear u0
        try clear u1
        try clear c9
        try clear u2
        try clear u3
        try clear x0
        try clear u4
        try clear u5
        try clear x1
        try clear u6
        try clear u7
        try clear x2
        try clear u8
        try clear u9
        try clear c20
        try clear c21
        try clear c24
        try clear c25
        try clear c27
        try clear c27b0
        try clear c28
        try clear u10
        try clear c29
        try clear u11
        try clear c31
        try clear c32
        try clear u12
        try clear c33
        try clear u13
        try clear q34
        try clear c35
        try clear p36
        try clear q36
        try clear hx36
        try clear c37
        try clear c38
        try clear c39
        try clear p41
        try clear q41
        try clear c42
        try clear c43
        try clear c45
        try clear c47
        try clear c48
        try clear c49
        try clear p51
        try clear q51
        try clear c52
        try clear c53
        try clear p54
        try clear q54
        try clear c57
        try clear c58
        try clear c59
        try clear p61
        try clear q61
        try clear c62
        try clear c63
        try clear c64
        try clear p64
        try clear c65
        try clear c66
        try clear c67
        try clear c69
        try clear c70
        try clear k0 k1 k4 k5 l2 l3 l4 l5
        try clear k6 k7 k8 k9 l6 l7 l8 l9
        try clear k10 k11 k12 k13 l10 l11 l12 l13
        try clear k14 k15 k16 k17 l14 l15 l16 l17
        try clear k18 k19 k20 k21 l18 l19 l20 l21
        try clear k22 k23 k24 k25 l22 l23 l24 l25
        try clear k26 k27 k28 k29 l26 l27 l28 l29
        try clear k30 k31 k32 k33 l30 l31 l32 l33
        try clear k34 k35 k37 k38 l34 l35 l36 l37
        try clear k43 k44 l42 l43
        try clear k45 k46 l44 l45
        try clear k47 k49 l46 l47
        try clear k50 k51 l48 l49
        try clear k39 k40 k41 k42 l38 l39 l40 l41
        try clear n0
        try clear n1
        try clear p2
        try clear t0
        try clear s0
        obtain ⟨e6, e7, e8, e9, e10, rfl, HA, Z1, b0, b1, b2, HB⟩ := hrel
        cases gk with
        | zero => exact absurd HA.out (by simp [impl_ExecOk.l1])
        | succ k3 =>
         have H := HA.out; clear HA; simp only [impl_ExecOk.l1] at H; replace H := ifc_ H
         rcases H with ⟨c72b0, H⟩ | ⟨c72b0, H⟩
         ·replace H := ifd2_ H; obtain ⟨u14, u15, H⟩ := H; replace H := bs_ H; obtain ⟨a2, G0, H⟩ := H; (try dsimp only at H); replace H := ifB_ H
          rcases H with ⟨rfl, H⟩ | ⟨rfl, H⟩
          ·replace H := ifd2_ H; obtain ⟨u16, u17, H⟩ := H; obtain ⟨bE0, bo0⟩ : ∃ b_ : Bool, b_ = (rdOf false [e7, e8, e9, e10] ((rd_T36 g1 e6).f0)) := ⟨_, rfl⟩; replace H : (if bE0 = true then (some false) else ((impl_in.f ((rd_T36 g1 e6).f1) (-1000000) 1000000).bind fun a3 => (if a3 = true then (impl_ExecOk.l1 k3 g1 (g1.length : Int) (wrap64 (e6 + 1)) (ixB ((rd_T36 g1 e6).f0) 0 true e7) (ixB ((rd_T36 g1 e6).f0) 1 true e8) (ixB ((rd_T36 g1 e6).f0) 2 true e9) (ixB ((rd_T36 g1 e6).f0) 3 true e10)) else (some false)))) = some r := by rw [← bo0] at H; exact H
           have bk0 := Aside0.mk bo0; clear bo0; replace H := ifB_ H
           rcases H with ⟨rfl, H⟩ | ⟨rfl, H⟩
           ·obtain rfl := Option.some.inj H; have t1 : 0 ≤ (e6 : Int) := of_decide_eq_true zq41_; have s1 : e6 < (g1.length : Int) := of_decide_eq_true zq41_; obtain ⟨v0, M0, n2, n3⟩ := at_T36 af1.out e6 t1 s1; cases M0; replace n2 := pb_ HB.out n2; replace n3 := pb_ HB.out n3; replace t1 := eq_true t1; replace s1 := eq_true s1
            go_wp2_with (first | ((with_reducible refine gate_dst (N := 8) rfl ?_); (try (refine gate_guard (by rfl) ?_; dsimp only)); refine bxe_ (N := 8) (cs := #[.int .i64 0, .int .i64 0]) (t := 36) ?_; intro c12 hg r2 H_ hb; have d0 := Aside0.mk (blk_below (g := c0) (o := .cells #[.slice O0 g0.length I0, .slice (some v0) g1.length I1, .int .i64 h0, .int .i64 h1] 30 (0, 0)) zq1c_ hb); have d1 := Aside0.mk (blk_below (g := c10) (o := .cells #[.bool e2, .bool e3, .bool e4, .bool e5] 51 (0, 0)) zq1d_ hb); have d2 := Aside0.mk (blk_below (g := c11) (o := .cells #[.bool e7, .bool e8, .bool e9, .bool e10] 51 (0, 0)) zq1e_ hb); have d3 := Aside0.mk (below_step zq53_ hb); have d4 := Aside0.mk (H_); have d5 := Aside0.mk ((zq92_ : w.heap.size ≤ c12)); have d6 := Aside0.mk ((zq92_ : w.heap.size ≤ c12)); have d7 := Aside0.mk ((zqae_ : c0 ≠ c12)); have d8 := Aside0.mk ((zq9d_ : c12 ≠ c0)); have d9 := Aside0.mk ((zqb3_ : c10 ≠ c12)); have d10 := Aside0.mk ((zqa2_ : c12 ≠ c10)); have d11 := Aside0.mk ((zqb4_ : c11 ≠ c12)); have d12 := Aside0.mk ((zqa3_ : c12 ≠ c11)); clear b0; clear b1; clear b2; clear HB; have b0 := d0; have b1 := d1; have b2 := d2; have HB := d3; have b3 := d4; have y3 := d5; have p8 := d6; have i6 := d7; have i7 := d8; have i8 := d9; have i9 := d10; have i10 := d11; have i11 := d12; clear d0 d1 d2 d3 d4 d5 d6 d7 d8 d9 d10 d11 d12; clear hb H_ hg; have T4 := i7.out; have U4 := i6.out; have T5 := i9.out; have U5 := i8.out; have T6 := i11.out; have U6 := i10.out; obtain ⟨k52, k53, l50, l51⟩ := bz2_ b3.out) | ((with_reducible refine gate_callee (f := 64) rfl ?_); refine gl_ 82 Try.func64 #[.int .i64 ((rd_T36 g1 e6).f0), .int .i64 0, .int .i64 3] ?_; (with_reducible refine (impl_in.calls ((rd_T36 g1 e6).f0) 0 3 true _ G0.out).mono ?_); rintro e w' ⟨rfl, ⟨nd, rfl⟩⟩; refine ⟨_, rfl, ?_⟩; have T7 := i3.out; have U7 := i2.out; have T8 := i5.out; have U8 := i4.out; have aK0 : 0 ≤ ((rd_T36 g1 e6).f0) := of_decide_eq_true zq41_; have aL0 : ((rd_T36 g1 e6).f0) < 4 := of_decide_eq_true zq41_; have aZ0 := ixcellB4 (w := r2) ((rd_T36 g1 e6).f0) aK0 aL0 b2.out; have bp0 := blk_frozen b2.out ((rd_T36 g1 e6).f0).toNat; have bq0 := eq_true aK0; have br0 := eq_true aL0; (try rw [← bk0.out] at aZ0)))
            go_ret
            exact ⟨zq45_, zq52_⟩
           ·replace H := bs_ H; obtain ⟨a3, G1, H⟩ := H; (try dsimp only at H); replace H := ifB_ H
            rcases H with ⟨rfl, H⟩ | ⟨rfl, H⟩
            ·have H' := Aside0.mk H; clear H; have t1 : 0 ≤ (e6 : Int) := of_decide_eq_true zq41_; have s1 : e6 < (g1.length : Int) := of_decide_eq_true zq41_; obtain ⟨v0, M0, n2, n3⟩ := at_T36 af1.out e6 t1 s1; cases M0; replace n2 := pb_ HB.out n2; replace n3 := pb_ HB.out n3; replace t1 := eq_true t1; replace s1 := eq_true s1
             go_wp2_with (first | ((with_reducible refine gate_dst (N := 8) rfl ?_); (try (refine gate_guard (by rfl) ?_; dsimp only)); refine bxe_ (N := 8) (cs := #[.int .i64 0, .int .i64 0]) (t := 36) ?_; intro c12 hg r2 H_ hb; have d0 := Aside0.mk (blk_below (g := c0) (o := .cells #[.slice O0 g0.length I0, .slice (some v0) g1.length I1, .int .i64 h0, .int .i64 h1] 30 (0, 0)) zq1c_ hb); have d1 := Aside0.mk (blk_below (g := c10) (o := .cells #[.bool e2, .bool e3, .bool e4, .bool e5] 51 (0, 0)) zq1d_ hb); have d2 := Aside0.mk (blk_below (g := c11) (o := .cells #[.bool e7, .bool e8, .bool e9, .bool e10] 51 (0, 0)) zq1e_ hb); have d3 := Aside0.mk (below_step zq53_ hb); have d4 := Aside0.mk (H_); have d5 := Aside0.mk ((zq92_ : w.heap.size ≤ c12)); have d6 := Aside0.mk ((zq92_ : w.heap.size ≤ c12)); have d7 := Aside0.mk ((zqae_ : c0 ≠ c12)); have d8 := Aside0.mk ((zq9d_ : c12 ≠ c0)); have d9 := Aside0.mk ((zqb3_ : c10 ≠ c12)); have d10 := Aside0.mk ((zqa2_ : c12 ≠ c10)); have d11 := Aside0.mk ((zqb4_ : c11 ≠ c12)); have d12 := Aside0.mk ((zqa3_ : c12 ≠ c11)); clear b0; clear b1; clear b2; clear HB; have b0 := d0; have b1 := d1; have b2 := d2; have HB := d3; have b3 := d4; have y3 := d5; have p8 := d6; have i6 := d7; have i7 := d8; have i8 := d9; have i9 := d10; have i10 := d11; have i11 := d12; clear d0 d1 d2 d3 d4 d5 d6 d7 d8 d9 d10 d11 d12; clear hb H_ hg; have T4 := i7.out; have U4 := i6.out; have T5 := i9.out; have U5 := i8.out; have T6 := i11.out; have U6 := i10.out; obtain ⟨k52, k53, l50, l51⟩ := bz2_ b3.out) | ((with_reducible refine gate_callee (f := 64) rfl ?_); refine gl_ 82 Try.func64 #[.int .i64 ((rd_T36 g1 e6).f0), .int .i64 0, .int .i64 3] ?_; (with_reducible refine (impl_in.calls ((rd_T36 g1 e6).f0) 0 3 true _ G0.out).mono ?_); rintro e w' ⟨rfl, ⟨nd, rfl⟩⟩; refine ⟨_, rfl, ?_⟩; have T7 := i3.out; have U7 := i2.out; have T8 := i5.out; have U8 := i4.out; have aK0 : 0 ≤ ((rd_T36 g1 e6).f0) := of_decide_eq_true zq41_; have aL0 : ((rd_T36 g1 e6).f0) < 4 := of_decide_eq_true zq41_; have aZ0 := ixcellB4 (w := r2) ((rd_T36 g1 e6).f0) aK0 aL0 b2.out; have bp0 := blk_frozen b2.out ((rd_T36 g1 e6).f0).toNat; have bq0 := eq_true aK0; have br0 := eq_true aL0; (try rw [← bk0.out] at aZ0)) | (go_at_call 64; (with_reducible refine (impl_in.calls ((rd_T36 g1 e6).f1) (-1000000) 1000000 true _ G1.out).mono ?_); rintro e w' ⟨rfl, ⟨nd, rfl⟩⟩; (try clear G1); have aK1 : 0 ≤ ((rd_T36 g1 e6).f0) := of_decide_eq_true zq41_; have aL1 : ((rd_T36 g1 e6).f0) < 4 := of_decide_eq_true zq41_; have aZ1 := ixcellB4 (w := r2) ((rd_T36 g1 e6).f0) aK1 aL1 b2.out; have bp1 := blk_frozen b2.out ((rd_T36 g1 e6).f0).toNat; have bq1 := eq_true aK1; have br1 := eq_true aL1; (try rw [← bk0.out] at aZ1)) | ((with_reducible refine gate_store (t := 4) (p := 98) rfl ?_); refine store_event (t := 4) (p := 98) (v := ?vo_w100) (w1 := ?wo_w100) ?hg ?ho ?hn ?hr ?_; (case ho => rfl); (case hg => rfl); (case hn => rfl); (case hr => first | (go_simp; done) | (go_simp; rfl)); intro r3 hw; have d0 : Aside0 (r3.heap[c0]? = some (.cells #[.slice O0 g0.length I0, .slice (some v0) g1.length I1, .int .i64 h0, .int .i64 h1] 30 (0, 0))) := ⟨(by rw [hw]; exact (by (with_reducible repeat (first | refine blk_drewN ?_ _ | refine blk_drew ?_ | refine blk_alloc ?_ _)); refine blk_far ?_ i2.out _; (with_reducible repeat (first | refine blk_drewN ?_ _ | refine blk_drew ?_ | refine blk_alloc ?_ _)); refine blk_far ?_ i6.out _; (with_reducible repeat (first | refine blk_drewN ?_ _ | refine blk_drew ?_ | refine blk_alloc ?_ _)); refine blk_far ?_ i6.out _; (with_reducible repeat (first | refine blk_drewN ?_ _ | refine blk_drew ?_ | refine blk_alloc ?_ _)); exact b0.out))⟩; have d1 : Aside0 (r3.heap[c10]? = some (.cells #[.bool e2, .bool e3, .bool e4, .bool e5] 51 (0, 0))) := ⟨(by rw [hw]; exact (by (with_reducible repeat (first | refine blk_drewN ?_ _ | refine blk_drew ?_ | refine blk_alloc ?_ _)); refine blk_far ?_ i4.out _; (with_reducible repeat (first | refine blk_drewN ?_ _ | refine blk_drew ?_ | refine blk_alloc ?_ _)); refine blk_far ?_ i8.out _; (with_reducible repeat (first | refine blk_drewN ?_ _ | refine blk_drew ?_ | refine blk_alloc ?_ _)); refine blk_far ?_ i8.out _; (with_reducible repeat (first | refine blk_drewN ?_ _ | refine blk_drew ?_ | refine blk_alloc ?_ _)); exact b1.out))⟩; have d2 : Aside0 (r3.heap[c11]? = some (.cells #[.bool (ixB ((rd_T36 g1 e6).f0) 0 true e7), .bool (ixB ((rd_T36 g1 e6).f0) 1 true e8), .bool (ixB ((rd_T36 g1 e6).f0) 2 true e9), .bool (ixB ((rd_T36 g1 e6).f0) 3 true e10)] 51 (0, 0))) := ⟨(by rw [hw]; exact (by (with_reducible repeat (first | refine blk_drewN ?_ _ | refine blk_drew ?_ | refine blk_alloc ?_ _)); refine blk_put (cs := #[.bool e7, .bool e8, .bool e9, .bool e10]) ?_ ((rd_T36 g1 e6).f0).toNat _ (ixputB4 ((rd_T36 g1 e6).f0) true e7 e8 e9 e10 aK1 aL1); (with_reducible repeat (first | refine blk_drewN ?_ _ | refine blk_drew ?_ | refine blk_alloc ?_ _)); refine blk_far ?_ i10.out _; (with_reducible repeat (first | refine blk_drewN ?_ _ | refine blk_drew ?_ | refine blk_alloc ?_ _)); refine blk_far ?_ i10.out _; (with_reducible repeat (first | refine blk_drewN ?_ _ | refine blk_drew ?_ | refine blk_alloc ?_ _)); exact b2.out))⟩; have d3 : Aside0 (r3.heap[c12]? = some (.cells #[.int .i64 ((rd_T36 g1 e6).f0), .int .i64 ((rd_T36 g1 e6).f1)] 36 (0, 0))) := ⟨(by rw [hw]; exact (by (with_reducible repeat (first | refine blk_drewN ?_ _ | refine blk_drew ?_ | refine blk_alloc ?_ _)); refine blk_far ?_ i11.out _; (with_reducible repeat (first | refine blk_drewN ?_ _ | refine blk_drew ?_ | refine blk_alloc ?_ _)); refine blk_put (cs := #[.int .i64 ((rd_T36 g1 e6).f0), .int .i64 0]) ?_ 1 _ rfl; (with_reducible repeat (first | refine blk_drewN ?_ _ | refine blk_drew ?_ | refine blk_alloc ?_ _)); refine blk_put (cs := #[.int .i64 0, .int .i64 0]) ?_ 0 _ rfl; (with_reducible repeat (first | refine blk_drewN ?_ _ | refine blk_drew ?_ | refine blk_alloc ?_ _)); exact b3.out))⟩; have d4 : Aside0 (Below w.heap.size w r3) := ⟨(by rw [hw]; exact zq52_)⟩; clear hw; clear b0; clear b1; clear b2; clear b3; clear HB; have b0 := d0; have b1 := d1; have b2 := d2; have b3 := d3; have HB := d4; clear d0 d1 d2 d3 d4))
             go_roundg k3
             case measure => have := av0.out; have := Z0.out; have := Z1.out; omega
             case rel => exact ⟨(wrap64 (e6 + 1)), ((ixB ((rd_T36 g1 e6).f0) 0 true e7)), ((ixB ((rd_T36 g1 e6).f0) 1 true e8)), ((ixB ((rd_T36 g1 e6).f0) 2 true e9)), ((ixB ((rd_T36 g1 e6).f0) 3 true e10)), zq46_, H', ⟨by have := av0.out; have := Z0.out; have := Z1.out; omega⟩, ⟨zq1c_⟩, ⟨zq1d_⟩, ⟨zq1e_⟩, ⟨zq52_⟩⟩
            ·obtain rfl := Option.some.inj H; have t1 : 0 ≤ (e6 : Int) := of_decide_eq_true zq41_; have s1 : e6 < (g1.length : Int) := of_decide_eq_true zq41_; obtain ⟨v0, M0, n2, n3⟩ := at_T36 af1.out e6 t1 s1; cases M0; replace n2 := pb_ HB.out n2; replace n3 := pb_ HB.out n3; replace t1 := eq_true t1; replace s1 := eq_true s1
             go_wp2_with (first | ((with_reducible refine gate_dst (N := 8) rfl ?_); (try (refine gate_guard (by rfl) ?_; dsimp only)); refine bxe_ (N := 8) (cs := #[.int .i64 0, .int .i64 0]) (t := 36) ?_; intro c12 hg r2 H_ hb; have d0 := Aside0.mk (blk_below (g := c0) (o := .cells #[.slice O0 g0.length I0, .slice (some v0) g1.length I1, .int .i64 h0, .int .i64 h1] 30 (0, 0)) zq1c_ hb); have d1 := Aside0.mk (blk_below (g := c10) (o := .cells #[.bool e2, .bool e3, .bool e4, .bool e5] 51 (0, 0)) zq1d_ hb); have d2 := Aside0.mk (blk_below (g := c11) (o := .cells #[.bool e7, .bool e8, .bool e9, .bool e10] 51 (0, 0)) zq1e_ hb); have d3 := Aside0.mk (below_step zq53_ hb); have d4 := Aside0.mk (H_); have d5 := Aside0.mk ((zq92_ : w.heap.size ≤ c12)); have d6 := Aside0.mk ((zq92_ : w.heap.size ≤ c12)); have d7 := Aside0.mk ((zqae_ : c0 ≠ c12)); have d8 := Aside0.mk ((zq9d_ : c12 ≠ c0)); have d9 := Aside0.mk ((zqb3_ : c10 ≠ c12)); have d10 := Aside0.mk ((zqa2_ : c12 ≠ c10)); have d11 := Aside0.mk ((zqb4_ : c11 ≠ c12)); have d12 := Aside0.mk ((zqa3_ : c12 ≠ c11)); clear b0; clear b1; clear b2; clear HB; have b0 := d0; have b1 := d1; have b2 := d2; have HB := d3; have b3 := d4; have y3 := d5; have p8 := d6; have i6 := d7; have i7 := d8; have i8 := d9; have i9 := d10; have i10 := d11; have i11 := d12; clear d0 d1 d2 d3 d4 d5 d6 d7 d8 d9 d10 d11 d12; clear hb H_ hg; have T4 := i7.out; have U4 := i6.out; have T5 := i9.out; have U5 := i8.out; have T6 := i11.out; have U6 := i10.out; obtain ⟨k52, k53, l50, l51⟩ := bz2_ b3.out) | ((with_reducible refine gate_callee (f := 64) rfl ?_); refine gl_ 82 Try.func64 #[.int .i64 ((rd_T36 g1 e6).f0), .int .i64 0, .int .i64 3] ?_; (with_reducible refine (impl_in.calls ((rd_T36 g1 e6).f0) 0 3 true _ G0.out).mono ?_); rintro e w' ⟨rfl, ⟨nd, rfl⟩⟩; refine ⟨_, rfl, ?_⟩; have T7 := i3.out; have U7 := i2.out; have T8 := i5.out; have U8 := i4.out; have aK0 : 0 ≤ ((rd_T36 g1 e6).f0) := of_decide_eq_true zq41_; have aL0 : ((rd_T36 g1 e6).f0) < 4 := of_decide_eq_true zq41_; have aZ0 := ixcellB4 (w := r2) ((rd_T36 g1 e6).f0) aK0 aL0 b2.out; have bp0 := blk_frozen b2.out ((rd_T36 g1 e6).f0).toNat; have bq0 := eq_true aK0; have br0 := eq_true aL0; (try rw [← bk0.out] at aZ0)) | (go_at_call 64; (with_reducible refine (impl_in.calls ((rd_T36 g1 e6).f1) (-1000000) 1000000 false _ G1.out).mono ?_); rintro e w' ⟨rfl, ⟨nd, rfl⟩⟩; (try clear G1)))
             go_ret
             exact ⟨zq45_, zq52_⟩
          ·obtain rfl := Option.some.inj H; have t1 : 0 ≤ (e6 : Int) := of_decide_eq_true zq41_; have s1 : e6 < (g1.length : Int) := of_decide_eq_true zq41_; obtain ⟨v0, M0, n2, n3⟩ := at_T36 af1.out e6 t1 s1; cases M0; replace n2 := pb_ HB.out n2; replace n3 := pb_ HB.out n3; replace t1 := eq_true t1; replace s1 := eq_true s1
           go_wp2_with (first | ((with_reducible refine gate_dst (N := 8) rfl ?_); (try (refine gate_guard (by rfl) ?_; dsimp only)); refine bxe_ (N := 8) (cs := #[.int .i64 0, .int .i64 0]) (t := 36) ?_; intro c12 hg r2 H_ hb; have d0 := Aside0.mk (blk_below (g := c0) (o := .cells #[.slice O0 g0.length I0, .slice (some v0) g1.length I1, .int .i64 h0, .int .i64 h1] 30 (0, 0)) zq1c_ hb); have d1 := Aside0.mk (blk_below (g := c10) (o := .cells #[.bool e2, .bool e3, .bool e4, .bool e5] 51 (0, 0)) zq1d_ hb); have d2 := Aside0.mk (blk_below (g := c11) (o := .cells #[.bool e7, .bool e8, .bool e9, .bool e10] 51 (0, 0)) zq1e_ hb); have d3 := Aside0.mk (below_step zq53_ hb); have d4 := Aside0.mk (H_); have d5 := Aside0.mk ((zq92_ : w.heap.size ≤ c12)); have d6 := Aside0.mk ((zq92_ : w.heap.size ≤ c12)); have d7 := Aside0.mk ((zqae_ : c0 ≠ c12)); have d8 := Aside0.mk ((zq9d_ : c12 ≠ c0)); have d9 := Aside0.mk ((zqb3_ : c10 ≠ c12)); have d10 := Aside0.mk ((zqa2_ : c12 ≠ c10)); have d11 := Aside0.mk ((zqb4_ : c11 ≠ c12)); have d12 := Aside0.mk ((zqa3_ : c12 ≠ c11)); clear b0; clear b1; clear b2; clear HB; have b0 := d0; have b1 := d1; have b2 := d2; have HB := d3; have b3 := d4; have y3 := d5; have p8 := d6; have i6 := d7; have i7 := d8; have i8 := d9; have i9 := d10; have i10 := d11; have i11 := d12; clear d0 d1 d2 d3 d4 d5 d6 d7 d8 d9 d10 d11 d12; clear hb H_ hg; have T4 := i7.out; have U4 := i6.out; have T5 := i9.out; have U5 := i8.out; have T6 := i11.out; have U6 := i10.out; obtain ⟨k52, k53, l50, l51⟩ := bz2_ b3.out) | ((with_reducible refine gate_callee (f := 64) rfl ?_); refine gl_ 82 Try.func64 #[.int .i64 ((rd_T36 g1 e6).f0), .int .i64 0, .int .i64 3] ?_; (with_reducible refine (impl_in.calls ((rd_T36 g1 e6).f0) 0 3 false _ G0.out).mono ?_); rintro e w' ⟨rfl, ⟨nd, rfl⟩⟩; refine ⟨_, rfl, ?_⟩))
           go_ret
           exact ⟨zq45_, zq52_⟩
         ·obtain rfl := Option.some.inj H
          go_wp2
          go_ret
          exact ⟨zq45_, zq53_⟩

end Go.Proofs.Ytgdafcakefnpdaa.PFnExecDo

-- Laid by this session's program out of the translation (gen.sh).
import Derived.Test.YtgdafcakefnpdaaPFnExecDox0
import Derived.Test.YtgdafcakefnpdaaPFnExecDox2
import Derived.Test.YtgdafcakefnpdaaPFnExecDox13
namespace Go.Proofs.Ytgdafcakefnpdaa.PFnExecDo
open Go.RowKit Go.Proofs.YtgdafcakefnpdaaW.PrintWords Go.Proofs.YtgdafcakefnpdaaW.PrintLast Go.Proofs.YtgdafcakefnpdaaW.PrintMore
attribute [local go_sem] max2_int min2_int max_two min_two max_three min_three max_four min_four   -- for this text's walks alone
set_option linter.unusedVariables false
set_option linter.unusedSimpArgs false

/-! ### spec_ExecFresh: function 23 -/
mutual
def spec_ExecFresh.j0 : Nat → List (S46) → Bool → List (S48) → List (S36) → Int → Int → Option (Bool)
 | 0, _, _, _, _, _, _ => none
 | k + 1, x0, x13, x447000, x447001, x447002, x447003 => if x13 = true then (some false) else (spec_ExecFresh.l0 k x0 0 x447000 x447001 x447002 x447003)
def spec_ExecFresh.l0 : Nat → List (S46) → Int → List (S48) → List (S36) → Int → Int → Option (Bool)
 | 0, _, _, _, _, _, _ => none
 | k + 1, x0, x5, x447000, x447001, x447002, x447003 => if x5 < (x447000.length : Int) then (if 0 ≤ x5 then (if 0 ≤ ((rd_T48 x447000 x5).f0) then (if ((rd_T48 x447000 x5).f0) < (x0.length : Int) then (if ((rd_T46 x0 ((rd_T48 x447000 x5).f0)).f0) = ((rd_T48 x447000 x5).f1) then (spec_ExecFresh.l0 k x0 (wrap64 (x5 + 1)) x447000 x447001 x447002 x447003) else (some false)) else (none)) else (none)) else (none)) else (some true)
end
def spec_ExecFresh.f (k : Nat) (l0 : List (S46)) (l1_0 : List (S48)) (l1_1 : List (S36)) (a1_2 : Int) (a1_3 : Int) : Option (Bool) := (spec_BoxOk.f k l0).bind fun t447 => (if t447 = true then ((spec_ExecOk.f k l1_0 l1_1 a1_2 a1_3).bind fun t448 => (spec_ExecFresh.j0 k l0 (!t448) l1_0 l1_1 a1_2 a1_3)) else (spec_ExecFresh.j0 k l0 true l1_0 l1_1 a1_2 a1_3))
theorem spec_ExecFresh.mono_l : ∀ k, (∀ y0 y1 y2 y3 y4 y5, LeO (spec_ExecFresh.j0 k y0 y1 y2 y3 y4 y5) (spec_ExecFresh.j0 (k + 1) y0 y1 y2 y3 y4 y5)) ∧ (∀ y0 y1 y2 y3 y4 y5, LeO (spec_ExecFresh.l0 k y0 y1 y2 y3 y4 y5) (spec_ExecFresh.l0 (k + 1) y0 y1 y2 y3 y4 y5))
 | 0 => ⟨fun _ _ _ _ _ _ r h => by simp [spec_ExecFresh.j0] at h, fun _ _ _ _ _ _ r h => by simp [spec_ExecFresh.l0] at h⟩
 | k + 1 => by
  obtain ⟨J0, J1⟩ := spec_ExecFresh.mono_l k
  refine ⟨?_, ?_⟩
  ·intro y0 y1 y2 y3 y4 y5
   unfold spec_ExecFresh.j0
   repeat' first
   | (with_reducible exact J0 _ _ _ _ _ _)
   | (with_reducible exact J1 _ _ _ _ _ _)
   | (with_reducible exact spec_BoxOk.mono _ _)
   | (with_reducible exact spec_ExecOk.mono _ _ _ _ _)
   | (with_reducible exact LeO.refl _)
   | (with_reducible exact LeO.none _)
   | (with_reducible refine LeO.ite ?_ ?_)
   | (with_reducible refine LeO.bind ?_ (fun _ => ?_))
   | exact J0 _ _ _ _ _ _
   | exact J1 _ _ _ _ _ _
   | exact spec_BoxOk.mono _ _
   | exact spec_ExecOk.mono _ _ _ _ _
   | exact LeO.none _
   | refine LeO.ite ?_ ?_
   | refine LeO.bind ?_ (fun _ => ?_)
  ·intro y0 y1 y2 y3 y4 y5
   unfold spec_ExecFresh.l0
   repeat' first
   | (with_reducible exact J0 _ _ _ _ _ _)
   | (with_reducible exact J1 _ _ _ _ _ _)
   | (with_reducible exact spec_BoxOk.mono _ _)
   | (with_reducible exact spec_ExecOk.mono _ _ _ _ _)
   | (with_reducible exact LeO.refl _)
   | (with_reducible exact LeO.none _)
   | (with_reducible refine LeO.ite ?_ ?_)
   | (with_reducible refine LeO.bind ?_ (fun _ => ?_))
   | exact J0 _ _ _ _ _ _
   | exact J1 _ _ _ _ _ _
   | exact spec_BoxOk.mono _ _
   | exact spec_ExecOk.mono _ _ _ _ _
   | exact LeO.none _
   | refine LeO.ite ?_ ?_
   | refine LeO.bind ?_ (fun _ => ?_)
theorem spec_ExecFresh.mono : ∀ a0 a1 a2 a3 a4 k, LeO (spec_ExecFresh.f k a0 a1 a2 a3 a4) (spec_ExecFresh.f (k + 1) a0 a1 a2 a3 a4) := by
 intro a0 a1 a2 a3 a4 k
 obtain ⟨J0, J1⟩ := spec_ExecFresh.mono_l k
 unfold spec_ExecFresh.f
 repeat' first
   | (with_reducible exact J0 _ _ _ _ _ _)
   | (with_reducible exact J1 _ _ _ _ _ _)
   | (with_reducible exact spec_BoxOk.mono _ _)
   | (with_reducible exact spec_ExecOk.mono _ _ _ _ _)
   | (with_reducible exact LeO.refl _)
   | (with_reducible exact LeO.none _)
   | (with_reducible refine LeO.ite ?_ ?_)
   | (with_reducible refine LeO.bind ?_ (fun _ => ?_))
   | exact J0 _ _ _ _ _ _
   | exact J1 _ _ _ _ _ _
   | exact spec_BoxOk.mono _ _
   | exact spec_ExecOk.mono _ _ _ _ _
   | exact LeO.none _
   | refine LeO.ite ?_ ?_
   | refine LeO.bind ?_ (fun _ => ?_)
set_option maxHeartbeats 8000000 in
set_option maxRecDepth 100000 in
theorem spec_ExecFresh.calls (k : Nat) (A0 : Option Addr) (c0 : Nat) (l0 : List (S46)) (O0 : Option Addr) (I0 : Nat) (g0 : List (S48)) (O1 : Option Addr) (I1 : Nat) (g1 : List (S36)) (h0 : Int) (h1 : Int) (r : Bool) (w : World) (Y0 : Kd.C k46 w A0 l0.length l0) (ad0 : l0.length ≤ c0) (ar0 : Kd.C k48 w O0 g0.length g0) (au0 : g0.length ≤ I0) (ar1 : Kd.C k36 w O1 g1.length g1) (au1 : g1.length ≤ I1) (h : spec_ExecFresh.f k l0 g0 g1 h0 h1 = some r) :
  Calls Try.prog 23 #[.slice A0 l0.length c0, .agg #[.slice O0 g0.length I0, .slice O1 g1.length I1, .int .i64 h0, .int .i64 h1]] w fun e w' => e = .returned (.bool r) ∧ Below w.heap.size w w' := by
 have aB0 := Try.underlying30; have V0 := Aside0.mk Y0; have X0 := Aside0.mk ad0; clear Y0 ad0; have af0 := Aside0.mk ar0; have aC0 := Aside0.mk au0; clear ar0 au0; have af1 := Aside0.mk ar1; have aC1 := Aside0.mk au1; clear ar1 au1; have HB := Aside0.mk (Below.refl w.heap.size w); have H : ((spec_BoxOk.f k l0).bind fun a0 => (if a0 = true then ((spec_ExecOk.f k g0 g1 h0 h1).bind fun a1 => (spec_ExecFresh.j0 k l0 (!a1) g0 g1 h0 h1)) else (spec_ExecFresh.j0 k l0 true g0 g1 h0 h1))) = some r := h; clear h; have X1 := Aside0.mk H; clear H
 go_enter Try.func23, Try.ntmps23
 go_upto_region 1 with (first | ((with_reducible refine gate_dst (N := 3) rfl ?_); refine bxe_ (N := 3) (cs := #[.slice O0 g0.length I0, .slice O1 g1.length I1, .int .i64 h0, .int .i64 h1]) (t := 30) ?_; intro c3 hg w4 H_ hb; have n_ := A4_ (below_step zq59_ hb) (H_) ((zq95_ : w.heap.size ≤ c3)) ((zq95_ : w.heap.size ≤ c3)); clear HB; obtain ⟨HB, b0, y0, p0⟩ := n_; clear hb H_ hg))
 repeat (go_quiet (first | ((with_reducible refine gate_dst (N := 3) rfl ?_); refine bxe_ (N := 3) (cs := #[.slice O0 g0.length I0, .slice O1 g1.length I1, .int .i64 h0, .int .i64 h1]) (t := 30) ?_; intro c3 hg w4 H_ hb; have n_ := A4_ (below_step zq59_ hb) (H_) ((zq95_ : w.heap.size ≤ c3)) ((zq95_ : w.heap.size ≤ c3)); clear HB; obtain ⟨HB, b0, y0, p0⟩ := n_; clear hb H_ hg)); go_upto_region 1 with (first | ((with_reducible refine gate_dst (N := 3) rfl ?_); refine bxe_ (N := 3) (cs := #[.slice O0 g0.length I0, .slice O1 g1.length I1, .int .i64 h0, .int .i64 h1]) (t := 30) ?_; intro c3 hg w4 H_ hb; have n_ := A4_ (below_step zq59_ hb) (H_) ((zq95_ : w.heap.size ≤ c3)) ((zq95_ : w.heap.size ≤ c3)); clear HB; obtain ⟨HB, b0, y0, p0⟩ := n_; clear hb H_ hg)))
 (try simp only [Act.put, List.setIfInBounds_toArray, List.set_cons_zero, List.set_cons_succ])
 go_cut [13] (fun S0 wc => ∃ (kq : Nat) (e0 : Bool), S0 = .bool e0 ∧ Aside0 (spec_ExecFresh.j0 kq l0 e0 g0 g1 h0 h1 = some r) ∧ Aside0 (kq ≤ k) ∧ Aside0 (wc.heap[c3]? = some (.cells #[(.slice O0 g0.length I0), (.slice O1 g1.length I1), .int .i64 h0, .int .i64 h1] 30 (0, 0))) ∧ Aside0 (Below w.heap.size w wc))
 case first =>
  have H := X1.out; clear X1; replace H := bs_ H; obtain ⟨a0, A5, H⟩ := H; (try dsimp only at H); replace H := ifB_ H
  rcases H with ⟨rfl, H⟩ | ⟨rfl, H⟩
  ·replace H := bs_ H; obtain ⟨a1, A7, H⟩ := H; (try dsimp only at H); have H' := Aside0.mk H; clear H
   go_wp2_with (first | (go_at_call 24; (with_reducible refine (spec_BoxOk.calls k _ _ l0 true _ ?_ ?_ A5.out).mono ?_); exact zq69_; exact X0.out; rintro e w' ⟨rfl, ⟨nd, rfl⟩⟩; (try first | exact ⟨rfl, _, World.drewN_drewN _ _ _⟩ | exact ⟨rfl, _, Eq.trans (World.drewN_drewN _ _ _) (congrArg (World.drewN _) (Nat.add_assoc _ _ _))⟩); (try clear A5); obtain ⟨k0, k1, k3, k4, l1, l2, l3, l4⟩ := bz4_ b0.out) | (go_at_call 21; (with_reducible refine (spec_ExecOk.calls k _ _ g0 _ _ g1 h0 h1 a1 _ ?_ ?_ ?_ ?_ A7.out).mono ?_); exact zq90_; exact aC0.out; exact zq91_; exact aC1.out; rintro e w9 ⟨rfl, hb⟩; have n_ := A2_ (blk_below (g := c3) (o := .cells #[.slice O0 g0.length I0, .slice O1 g1.length I1, .int .i64 h0, .int .i64 h1] 30 (0, 0)) zq1c_ hb) (below_step zq58_ hb); clear b0 HB; obtain ⟨b0, HB⟩ := n_; (try clear A7)))
   repeat (go_quiet (first | (go_at_call 24; (with_reducible refine (spec_BoxOk.calls k _ _ l0 true _ ?_ ?_ A5.out).mono ?_); exact zq69_; exact X0.out; rintro e w' ⟨rfl, ⟨nd, rfl⟩⟩; (try first | exact ⟨rfl, _, World.drewN_drewN _ _ _⟩ | exact ⟨rfl, _, Eq.trans (World.drewN_drewN _ _ _) (congrArg (World.drewN _) (Nat.add_assoc _ _ _))⟩); (try clear A5); obtain ⟨k0, k1, k3, k4, l1, l2, l3, l4⟩ := bz4_ b0.out) | (go_at_call 21; (with_reducible refine (spec_ExecOk.calls k _ _ g0 _ _ g1 h0 h1 a1 _ ?_ ?_ ?_ ?_ A7.out).mono ?_); exact zq90_; exact aC0.out; exact zq91_; exact aC1.out; rintro e w9 ⟨rfl, hb⟩; have n_ := A2_ (blk_below (g := c3) (o := .cells #[.slice O0 g0.length I0, .slice O1 g1.length I1, .int .i64 h0, .int .i64 h1] 30 (0, 0)) zq1c_ hb) (below_step zq58_ hb); clear b0 HB; obtain ⟨b0, HB⟩ := n_; (try clear A7))); try go_wp2_with (first | (go_at_call 24; (with_reducible refine (spec_BoxOk.calls k _ _ l0 true _ ?_ ?_ A5.out).mono ?_); exact zq69_; exact X0.out; rintro e w' ⟨rfl, ⟨nd, rfl⟩⟩; (try first | exact ⟨rfl, _, World.drewN_drewN _ _ _⟩ | exact ⟨rfl, _, Eq.trans (World.drewN_drewN _ _ _) (congrArg (World.drewN _) (Nat.add_assoc _ _ _))⟩); (try clear A5); obtain ⟨k0, k1, k3, k4, l1, l2, l3, l4⟩ := bz4_ b0.out) | (go_at_call 21; (with_reducible refine (spec_ExecOk.calls k _ _ g0 _ _ g1 h0 h1 a1 _ ?_ ?_ ?_ ?_ A7.out).mono ?_); exact zq90_; exact aC0.out; exact zq91_; exact aC1.out; rintro e w9 ⟨rfl, hb⟩; have n_ := A2_ (blk_below (g := c3) (o := .cells #[.slice O0 g0.length I0, .slice O1 g1.length I1, .int .i64 h0, .int .i64 h1] 30 (0, 0)) zq1c_ hb) (below_step zq58_ hb); clear b0 HB; obtain ⟨b0, HB⟩ := n_; (try clear A7))))
   go_meet
   case rel => exact ⟨_, (!a1), zq46_, H', ⟨zq44_⟩, ⟨zq1c_⟩, ⟨zq58_⟩⟩
  ·have H' := Aside0.mk H; clear H
   go_wp2_with (first | (go_at_call 24; (with_reducible refine (spec_BoxOk.calls k _ _ l0 false _ ?_ ?_ A5.out).mono ?_); exact zq69_; exact X0.out; rintro e w' ⟨rfl, ⟨nd, rfl⟩⟩; (try first | exact ⟨rfl, _, World.drewN_drewN _ _ _⟩ | exact ⟨rfl, _, Eq.trans (World.drewN_drewN _ _ _) (congrArg (World.drewN _) (Nat.add_assoc _ _ _))⟩); (try clear A5)))
   repeat (go_quiet (first | (go_at_call 24; (with_reducible refine (spec_BoxOk.calls k _ _ l0 false _ ?_ ?_ A5.out).mono ?_); exact zq69_; exact X0.out; rintro e w' ⟨rfl, ⟨nd, rfl⟩⟩; (try first | exact ⟨rfl, _, World.drewN_drewN _ _ _⟩ | exact ⟨rfl, _, Eq.trans (World.drewN_drewN _ _ _) (congrArg (World.drewN _) (Nat.add_assoc _ _ _))⟩); (try clear A5))); try go_wp2_with (first | (go_at_call 24; (with_reducible refine (spec_BoxOk.calls k _ _ l0 false _ ?_ ?_ A5.out).mono ?_); exact zq69_; exact X0.out; rintro e w' ⟨rfl, ⟨nd, rfl⟩⟩; (try first | exact ⟨rfl, _, World.drewN_drewN _ _ _⟩ | exact ⟨rfl, _, Eq.trans (World.drewN_drewN _ _ _) (congrArg (World.drewN _) (Nat.add_assoc _ _ _))⟩); (try clear A5))))
   go_meet
   case rel => exact ⟨_, (true), zq46_, H', ⟨zq44_⟩, ⟨zq1c_⟩, ⟨zq58_⟩⟩
 case rest =>
  clear X1
  try clear c1
  try clear c2
  try clear p2
  try clear c6
  try clear k0 k1 k3 k4 l1 l2 l3 l4
  obtain ⟨kq, e0, rfl, HA, av0, b0, HB⟩ := hcut
  cases kq with
  | zero => exact absurd HA.out (by simp [spec_ExecFresh.j0])
  | succ kj2 =>
   have H := HA.out; clear HA; simp only [spec_ExecFresh.j0] at H; replace H := ifB_ H
   rcases H with ⟨rfl, H⟩ | ⟨rfl, H⟩
   ·obtain rfl := Option.some.inj H
    go_wp2
    repeat (go_quiet (fail); try go_wp2)
    go_ret
    exact ⟨zq45_, zq58_⟩
   ·have H' := Aside0.mk H; clear H
    go_wp2
    repeat (go_quiet (fail); try go_wp2)
    go_loopg [5] kj2 (fun kq v5 w' => ∃ (e1 : Int), v5 = .int .i64 e1 ∧ Aside0 (spec_ExecFresh.l0 kq l0 e1 g0 g1 h0 h1 = some r) ∧ Aside0 (kq ≤ kj2) ∧ Aside0 (w'.heap[c3]? = some (.cells #[(.slice O0 g0.length I0), (.slice O1 g1.length I1), .int .i64 h0, .int .i64 h1] 30 (0, 0))) ∧ Aside0 (Below w.heap.size w w'))
    case atStart => exact ⟨(0), zq46_, H', ⟨Nat.le_refl _⟩, ⟨zq1c_⟩, ⟨zq58_⟩⟩
    case round =>
     clear H'
     try clear c1
     try clear c2
     try clear p2
     try clear c6
     try clear c10
     try clear k0 k1 k3 k4 l1 l2 l3 l4
     try clear p2
     obtain ⟨e1, rfl, HA, Z0, b0, HB⟩ := hrel
     cases gk with
     | zero => exact absurd HA.out (by simp [spec_ExecFresh.l0])
     | succ k2 =>
      have H := HA.out; clear HA; simp only [spec_ExecFresh.l0] at H; replace H := ifc_ H
      rcases H with ⟨c11b0, H⟩ | ⟨c11b0, H⟩
      ·replace H := ifd3_ H; obtain ⟨u0, u1, u2, H⟩ := H; by_cases x0 : ((rd_T46 l0 ((rd_T48 g0 e1).f0)).f0) = ((rd_T48 g0 e1).f1)
       ·rw [if_pos x0] at H; have u3 : (((rd_T46 l0 ((rd_T48 g0 e1).f0)).f0) == ((rd_T48 g0 e1).f1)) = true := beq_iff_eq.mpr x0; have u4 : (((rd_T46 l0 ((rd_T48 g0 e1).f0)).f0) != ((rd_T48 g0 e1).f1)) = false := bne_eq_false_iff_eq.mpr x0; clear x0; have H' := Aside0.mk H; clear H; obtain ⟨k5, k6, k7, k8, l5, l6, l7, l8⟩ := bz4_ b0.out; have t0 : 0 ≤ (e1 : Int) := of_decide_eq_true zq41_; have s0 : e1 < (g0.length : Int) := of_decide_eq_true zq41_; obtain ⟨v0, M0, n0, n1⟩ := at_T48 af0.out e1 t0 s0; cases M0; replace n0 := pb_ HB.out n0; replace n1 := pb_ HB.out n1; replace t0 := eq_true t0; replace s0 := eq_true s0; have t1 : 0 ≤ (((rd_T48 g0 e1).f0) : Int) := of_decide_eq_true zq41_; have s1 : ((rd_T48 g0 e1).f0) < (l0.length : Int) := of_decide_eq_true zq41_; obtain ⟨v1, M1, n2, n3⟩ := at_T46 V0.out ((rd_T48 g0 e1).f0) t1 s1; cases M1; replace n2 := pb_ HB.out n2; replace n3 := pb_ HB.out n3; replace t1 := eq_true t1; replace s1 := eq_true s1; have t2 : 0 ≤ (e1 : Int) := of_decide_eq_true zq41_; have s2 : e1 < (g0.length : Int) := of_decide_eq_true zq41_; obtain ⟨v2, M2, n4, n5⟩ := at_T48 af0.out e1 t2 s2; obtain rfl : v0 = v2 := (by injection M2); replace n4 := pb_ HB.out n4; replace n5 := pb_ HB.out n5; replace t2 := eq_true t2; replace s2 := eq_true s2
        go_wp2
        repeat (go_quiet (fail); try go_wp2)
        go_roundg k2
        case measure => have := av0.out; have := Z0.out; omega
        case rel => exact ⟨(wrap64 (e1 + 1)), zq46_, H', ⟨zq4a_⟩, ⟨zq1c_⟩, ⟨zq58_⟩⟩
       ·rw [if_neg x0] at H; have u3 : (((rd_T46 l0 ((rd_T48 g0 e1).f0)).f0) == ((rd_T48 g0 e1).f1)) = false := beq_eq_false_iff_ne.mpr x0; have u4 : (((rd_T46 l0 ((rd_T48 g0 e1).f0)).f0) != ((rd_T48 g0 e1).f1)) = true := bne_iff_ne.mpr x0; obtain rfl := Option.some.inj H; obtain ⟨k5, k6, k7, k8, l5, l6, l7, l8⟩ := bz4_ b0.out; have t0 : 0 ≤ (e1 : Int) := of_decide_eq_true zq41_; have s0 : e1 < (g0.length : Int) := of_decide_eq_true zq41_; obtain ⟨v0, M0, n0, n1⟩ := at_T48 af0.out e1 t0 s0; cases M0; replace n0 := pb_ HB.out n0; replace n1 := pb_ HB.out n1; replace t0 := eq_true t0; replace s0 := eq_true s0; have t1 : 0 ≤ (((rd_T48 g0 e1).f0) : Int) := of_decide_eq_true zq41_; have s1 : ((rd_T48 g0 e1).f0) < (l0.length : Int) := of_decide_eq_true zq41_; obtain ⟨v1, M1, n2, n3⟩ := at_T46 V0.out ((rd_T48 g0 e1).f0) t1 s1; cases M1; replace n2 := pb_ HB.out n2; replace n3 := pb_ HB.out n3; replace t1 := eq_true t1; replace s1 := eq_true s1; have t2 : 0 ≤ (e1 : Int) := of_decide_eq_true zq41_; have s2 : e1 < (g0.length : Int) := of_decide_eq_true zq41_; obtain ⟨v2, M2, n4, n5⟩ := at_T48 af0.out e1 t2 s2; obtain rfl : v0 = v2 := (by injection M2); replace n4 := pb_ HB.out n4; replace n5 := pb_ HB.out n5; replace t2 := eq_true t2; replace s2 := eq_true s2
        go_wp2
        repeat (go_quiet (fail); try go_wp2)
        go_ret
        exact ⟨zq45_, zq58_⟩
      ·obtain rfl := Option.some.inj H; obtain ⟨k5, k6, k7, k8, l5, l6, l7, l8⟩ := bz4_ b0.out
       go_wp2
       repeat (go_quiet (fail); try go_wp2)
       go_ret
       exact ⟨zq45_, zq58_⟩

end Go.Proofs.Ytgdafcakefnpdaa.PFnExecDo

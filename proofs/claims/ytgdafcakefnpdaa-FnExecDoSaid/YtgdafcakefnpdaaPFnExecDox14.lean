-- Laid by this session's program out of the translation (gen.sh).
import Derived.Test.YtgdafcakefnpdaaPFnExecDox0
import Derived.Test.YtgdafcakefnpdaaPFnExecDox2
import Derived.Test.YtgdafcakefnpdaaPFnExecDox11
import Derived.Test.YtgdafcakefnpdaaPFnExecDox12
import Derived.Test.YtgdafcakefnpdaaPFnExecDox13
namespace Go.Proofs.Ytgdafcakefnpdaa.PFnExecDo
open Go.RowKit Go.Proofs.YtgdafcakefnpdaaW.PrintWords Go.Proofs.YtgdafcakefnpdaaW.PrintLast Go.Proofs.YtgdafcakefnpdaaW.PrintMore
attribute [local go_sem] max2_int min2_int max_two min_two max_three min_three max_four min_four   -- for this text's walks alone
set_option linter.unusedVariables false
set_option linter.unusedSimpArgs false

/-! ### spec_l1Min: function 102 -/
def spec_l1Min.f (a0 : Int) (a1 : Int) : Option (Int) := if a0 < a1 then (some a0) else (some a1)
set_option maxHeartbeats 8000000 in
set_option maxRecDepth 100000 in
theorem spec_l1Min.calls (a0 : Int) (a1 : Int) (r : Int) (w : World) (h : spec_l1Min.f a0 a1 = some r) :
  Calls Try.prog 102 #[.int .i64 a0, .int .i64 a1] w fun e w' => e = .returned (.int .i64 r) ∧ Drawn0 w w' := by
 have H : (if a0 < a1 then (some a0) else (some a1)) = some r := h; clear h; replace H := ifc_ H
 rcases H with ⟨c3b0, H⟩ | ⟨c3b0, H⟩
 ·obtain rfl := Option.some.inj H
  go_enter Try.func102, Try.ntmps102
  go_wp2
  go_ret
  exact ⟨zq46_, zq79_⟩
 ·obtain rfl := Option.some.inj H
  go_enter Try.func102, Try.ntmps102
  go_wp2
  go_ret
  exact ⟨zq46_, zq79_⟩

/-! ### spec_l3Do: function 72 -/
def spec_l3Do.l0 : Nat → List (S46) → Int → List (S48) → List (S36) → Int → Int → Option ((List (S46)))
 | 0, _, _, _, _, _, _ => none
 | k + 1, x0, x5, x417000, x417001, x417002, x417003 => if x5 < (x417001.length : Int) then (if 0 ≤ x5 then (if 0 ≤ ((rd_T36 x417001 x5).f0) then (if ((rd_T36 x417001 x5).f0) < (x0.length : Int) then ((spec_l1Min.f 1000000 (wrap64 (((rd_T46 x0 ((rd_T36 x417001 x5).f0)).f0) + 1))).bind fun t419 => (spec_l3Do.l0 k (x0.set (((rd_T36 x417001 x5).f0) : Int).toNat (⟨t419, (rd_T36 x417001 x5).f1⟩ : S46)) (wrap64 (x5 + 1)) x417000 x417001 x417002 x417003)) else (none)) else (none)) else (none)) else (some x0)
def spec_l3Do.f (k : Nat) (l0 : List (S46)) (l1_0 : List (S48)) (l1_1 : List (S36)) (a1_2 : Int) (a1_3 : Int) : Option ((List (S46))) := spec_l3Do.l0 k l0 0 l1_0 l1_1 a1_2 a1_3
theorem spec_l3Do.mono_l : ∀ k, (∀ y0 y1 y2 y3 y4 y5, LeO (spec_l3Do.l0 k y0 y1 y2 y3 y4 y5) (spec_l3Do.l0 (k + 1) y0 y1 y2 y3 y4 y5))
 | 0 => fun _ _ _ _ _ _ r h => by simp [spec_l3Do.l0] at h
 | k + 1 => by
  have J0 := spec_l3Do.mono_l k
  ·intro y0 y1 y2 y3 y4 y5
   unfold spec_l3Do.l0
   repeat' first
   | (with_reducible exact J0 _ _ _ _ _ _)
   | (with_reducible exact LeO.refl _)
   | (with_reducible exact LeO.none _)
   | (with_reducible refine LeO.ite ?_ ?_)
   | (with_reducible refine LeO.bind ?_ (fun _ => ?_))
   | exact J0 _ _ _ _ _ _
   | exact LeO.none _
   | refine LeO.ite ?_ ?_
   | refine LeO.bind ?_ (fun _ => ?_)
theorem spec_l3Do.mono : ∀ a0 a1 a2 a3 a4 k, LeO (spec_l3Do.f k a0 a1 a2 a3 a4) (spec_l3Do.f (k + 1) a0 a1 a2 a3 a4) := by
 intro a0 a1 a2 a3 a4 k
 have J0 := spec_l3Do.mono_l k
 unfold spec_l3Do.f
 repeat' first
   | (with_reducible exact J0 _ _ _ _ _ _)
   | (with_reducible exact LeO.refl _)
   | (with_reducible exact LeO.none _)
   | (with_reducible refine LeO.ite ?_ ?_)
   | (with_reducible refine LeO.bind ?_ (fun _ => ?_))
   | exact J0 _ _ _ _ _ _
   | exact LeO.none _
   | refine LeO.ite ?_ ?_
   | refine LeO.bind ?_ (fun _ => ?_)
def spec_l3Do.T5 : Bool × List (List Nat × List Nat) := (true, [([], []), ([], []), ([], []), ([], []), ([2, 3], [2, 3]), ([4], [4]), ([5], [5]), ([6], [6]), ([7], [7]), ([], []), ([9], [9]), ([], []), ([10, 11], [10, 11]), ([12], [12]), ([13], [13]), ([8, 14], [8, 14]), ([0, 1, 0, 1, 2, 3, 4, 5, 6, 7, 8, 9, 10, 11, 12, 13, 14, 15], [0, 1]), ([16, 15, 8, 0, 1, 2, 3, 4, 5, 6, 7, 8, 9, 10, 11, 12, 13, 14, 15], [15, 16])])
def spec_l3Do.B5 : List Nat := [0, 0, 0, 0, 12, 28, 60, 124, 252, 0, 512, 0, 3584, 7680, 15872, 32764, 65535, 131071]
theorem spec_l3Do.tab5 : rtab .any (opsOf Try.f72 5) = spec_l3Do.T5 := by kernel_rfl
theorem spec_l3Do.bits5 : waitsOk spec_l3Do.T5.2 spec_l3Do.B5 = true := by kernel_rfl
set_option maxHeartbeats 8000000 in
set_option maxRecDepth 100000 in
theorem spec_l3Do.calls (k : Nat) (ah0 : Nat → Prop) (aD0 : Value) (l0 : List (S46)) (O0 : Option Addr) (I0 : Nat) (g0 : List (S48)) (O1 : Option Addr) (I1 : Nat) (g1 : List (S36)) (h0 : Int) (h1 : Int) (r : List (S46)) (w0 w : World) (hB : Below w0.heap.size w0 w) (D0 : Kd.R k46 46 w w0.heap.size ah0 aD0 l0) (ar0 : ∀ W_, Kept w W_ (fun k_ => ah0 k_) → Kd.C k48 W_ O0 g0.length g0) (au0 : g0.length ≤ I0) (ar1 : ∀ W_, Kept w W_ (fun k_ => ah0 k_) → Kd.C k36 W_ O1 g1.length g1) (au1 : g1.length ≤ I1) (h : spec_l3Do.f k l0 g0 g1 h0 h1 = some r) :
  Calls Try.prog 72 #[aD0, .agg #[.slice O0 g0.length I0, .slice O1 g1.length I1, .int .i64 h0, .int .i64 h1]] w fun e w' => ∃ v0_ : Value, e = .returned (v0_) ∧ Kd.R k46 46 w' w0.heap.size (fun k_ => (ah0 k_ ∨ w.heap.size ≤ k_)) v0_ r ∧ Below w0.heap.size w0 w' ∧ Kept w w' (fun k_ => ah0 k_) := by
 have aB0 := Try.underlying30; have aB1 := Try.underlying46; have f2 := Aside0.mk (show Kd.R k46 46 w w0.heap.size (fun k_ => (ah0 k_ ∨ w.heap.size ≤ k_)) aD0 l0 from Kd.R_mono D0 (fun k_ hk => (.inl hk))); have af0 := Aside0.mk ar0; have aC0 := Aside0.mk au0; clear ar0 au0; have af1 := Aside0.mk ar1; have aC1 := Aside0.mk au1; clear ar1 au1; have HK := Aside0.mk (Kept.refl w (fun k_ => ah0 k_)); have aE0 := Aside0.mk hB.size; have HB := Aside0.mk hB; clear hB; have H : (spec_l3Do.l0 k l0 0 g0 g1 h0 h1) = some r := h; clear h; have H' := Aside0.mk H; clear H
 go_enter Try.func72, Try.ntmps72
 go_wp2_with (first | ((with_reducible refine gate_dst (N := 3) rfl ?_); refine bxe_ (N := 3) (cs := #[.slice O0 g0.length I0, .slice O1 g1.length I1, .int .i64 h0, .int .i64 h1]) (t := 30) ?_; intro c0 hg w3 H_ hb; have n_ := A6_ (Kd.R_below zq13_ hb) (Kept.below (S := (fun k_ => ah0 k_)) zq62_ hb) (below_step zq59_ hb) (H_) ((by rw [hg]; exact (by first | exact HK.out.1 | exact (show Kept w _ (fun k_ => ah0 k_) from by repeat (first | (with_reducible first | exact HK.out | apply Kept.alloc | apply Kept.drewN | apply Kept.drew) | exact HK.out)).1) : w.heap.size ≤ c0)) ((zq95_ : w0.heap.size ≤ c0)); clear f2 HK HB; obtain ⟨f2, HK, HB, b0, y0, p0⟩ := n_; clear hb H_ hg))
 go_loopg [5] k (fun kq v5 w' => ∃ (e0 : List (S46)) (e1 : Int), v5 = .int .i64 e1 ∧ Aside0 (spec_l3Do.l0 kq e0 e1 g0 g1 h0 h1 = some r) ∧ Aside0 (kq ≤ k) ∧ Aside0 (Kd.R k46 46 w' w0.heap.size (fun k_ => (ah0 k_ ∨ w.heap.size ≤ k_)) aD0 e0) ∧ Aside0 (w'.heap[c0]? = some (.cells #[(.slice O0 g0.length I0), (.slice O1 g1.length I1), .int .i64 h0, .int .i64 h1] 30 (0, 0))) ∧ Aside0 (Kept w w' (fun k_ => ah0 k_)) ∧ Aside0 (Below w0.heap.size w0 w'))
 case atStart => exact ⟨(l0), (0), zq46_, H', ⟨Nat.le_refl _⟩, ⟨zq13_⟩, ⟨zq1c_⟩, ⟨zq60_⟩, ⟨zq58_⟩⟩
 case round =>
  clear H'
  try clear c1
  try clear p2
  obtain ⟨e0, e1, rfl, HA, Z0, q0, b0, HK, HB⟩ := hrel
  cases gk with
  | zero => exact absurd HA.out (by simp [spec_l3Do.l0])
  | succ k1 =>
   have H := HA.out; clear HA; simp only [spec_l3Do.l0] at H; replace H := ifc_ H
   rcases H with ⟨c4b0, H⟩ | ⟨c4b0, H⟩
   ·replace H := ifd3_ H; obtain ⟨u0, u1, u2, H⟩ := H; replace H := bs_ H; obtain ⟨a0, A8, H⟩ := H; (try dsimp only at H); obtain ⟨N0, K0⟩ : ∃ y_ : List (S46), y_ = (e0.set (((rd_T36 g1 e1).f0) : Int).toNat (⟨a0, (rd_T36 g1 e1).f1⟩ : S46)) := ⟨_, rfl⟩; replace H : (spec_l3Do.l0 k1 N0 (wrap64 (e1 + 1)) g0 g1 h0 h1) = some r := by first | (rw [K0]; with_reducible exact H) | (have Q0 := (Option.bind_some _ _).symm.trans H; rw [K0]; with_reducible exact Q0) | (have Q0 := (Option.bind_some _ _).symm.trans H; with_reducible exact Q0) | with_reducible exact H | (rw [K0]; exact H) | exact H
    have aa0 := Aside0.mk K0; clear K0; have H' := Aside0.mk H; clear H; obtain ⟨k0, k2, k3, k4, l1, l2, l3, l4⟩ := bz4_ b0.out; have t0 : 0 ≤ (e1 : Int) := of_decide_eq_true zq41_; have s0 : e1 < (g1.length : Int) := of_decide_eq_true zq41_; obtain ⟨v0, M0, n0, n1⟩ := at_T36 (Kd.C_kept_now af1.out HK.out) e1 t0 s0; cases M0; replace t0 := eq_true t0; replace s0 := eq_true s0
    try go_wp2
    have n_ := A4_ (Kd.R_drew q0.out) (blk_drew b0.out) (Kept.drew HK.out) (below_drew1 HB.out); clear q0 b0 HK HB; obtain ⟨q0, b0, HK, HB⟩ := n_; obtain ⟨o0, m0, E0⟩ := Kd.R_slice q0.out; (first | subst E0 | (injection E0 with P0 P1 P2; have P3 := P0.symm; have P4 := P2.symm; clear P0 P1 P2; subst P3; subst P4)); have t1 : 0 ≤ (((rd_T36 g1 e1).f0) : Int) := of_decide_eq_true zq41_; have s1 : ((rd_T36 g1 e1).f0) < (e0.length : Int) := of_decide_eq_true zq41_; obtain ⟨v1, M1, n2, n3⟩ := at_T46 (Kd.R_reads' q0.out).2.2 ((rd_T36 g1 e1).f0) t1 s1; cases M1; replace t1 := eq_true t1; replace s1 := eq_true s1; have t2 : 0 ≤ (e1 : Int) := of_decide_eq_true zq41_; have s2 : e1 < (g1.length : Int) := of_decide_eq_true zq41_; obtain ⟨v2, M2, n4, n5⟩ := at_T36 (Kd.C_kept_now af1.out HK.out) e1 t2 s2; have C0 := n5; have C1 := n4; obtain rfl : v0 = v2 := (by injection M2); replace t2 := eq_true t2; replace s2 := eq_true s2; refine start_ (n := 18) (S := fun w' => w'.cell? ⟨c0, 0, none⟩ = some (.slice O0 g0.length I0) ∧ w'.cell? ⟨c0, 1, none⟩ = some (.slice (some v0) g1.length I1) ∧ w'.cell? ⟨c0, 2, none⟩ = some (.int .i64 h0) ∧ w'.cell? ⟨c0, 3, none⟩ = some (.int .i64 h1) ∧ w'.cell? (v1.add ((((rd_T36 g1 e1).f0)).toNat * 2)) = some (.int .i64 ((rd_T46 e0 ((rd_T36 g1 e1).f0)).f0)) ∧ w'.cell? ⟨(v1.add ((((rd_T36 g1 e1).f0)).toNat * 2)).block, (v1.add ((((rd_T36 g1 e1).f0)).toNat * 2)).off + 1, none⟩ = some (.int .i64 ((rd_T46 e0 ((rd_T36 g1 e1).f0)).f1)) ∧ w'.cell? (v0.add ((e1).toNat * 2)) = some (.int .i64 ((rd_T36 g1 e1).f0)) ∧ w'.cell? ⟨(v0.add ((e1).toNat * 2)).block, (v0.add ((e1).toNat * 2)).off + 1, none⟩ = some (.int .i64 ((rd_T36 g1 e1).f1))) (ds := [17]) #[false, false, false, false, false, false, false, false, false, false, false, false, false, false, false, false, false, false] (by kernel_rfl) rfl rfl ⟨(blk_cell b0.out 0).trans rfl, (blk_cell b0.out 1).trans rfl, (blk_cell b0.out 2).trans rfl, (blk_cell b0.out 3).trans rfl, n2, n3, n4, n5⟩ (fun hHeld => ?_); refine with_tabW spec_l3Do.tab5 spec_l3Do.bits5 (fun HT_ HW_ => ?_); generalize wr.drew = r0 at q0 b0 HK HB n2 n3 n4 n5 hHeld ⊢; refine pw_ 0 20 ?_; refine pw_ 1 21 ?_; refine pw_ 2 22 ?_; refine pw_ 3 23 ?_; refine pw_ 4 24 ?_; refine pw_ 5 25 ?_; refine pw_ 9 29 ?_; refine pw_ 11 31 ?_; refine tw_ 6 26 ?_; refine pw_ 7 27 ?_; refine tw_ 10 30 ?_; refine pw_ 12 32 ?_; refine pw_ 13 33 ?_; refine tw_ 14 34 ?_; refine on_ (i := 8) (N := some 28) rfl rfl (one_of HT_.out (by kernel_rfl)) (by decide) (fun K hK => ?_); refine goes_ Try.func102 (by kernel_rfl) rfl #[.int .i64 1000000, .int .i64 (wrap64 (((rd_T46 e0 ((rd_T36 g1 e1).f0)).f0) + 1))] (by rfl) rfl rfl zq0_ ?_
    with_reducible refine (spec_l1Min.calls 1000000 (wrap64 (((rd_T46 e0 ((rd_T36 g1 e1).f0)).f0) + 1)) a0 _ A8.out).mono ?_
    rintro e w' ⟨rfl, ⟨nd, rfl⟩⟩; refine ⟨_, rfl, ?_⟩; have p9 : 0 ≤ (((rd_T36 g1 e1).f0) : Int) := of_decide_eq_true zq41_; have q9 : (((rd_T36 g1 e1).f0) : Int) < ((e0.length : Int) : Int) := of_decide_eq_true zq41_; obtain ⟨R0, m1, E1, c2, aM0, be0, ax0⟩ := Kd.R_form q0.out (by omega); (first | cases E1 | (injection E1 with ai aN aO; (first | subst ai | (injection ai with ai; subst ai)); subst aO; clear aN)); have aH0 := Aside0.mk c2; have aS0 := Aside0.mk ax0; clear c2 aM0 ax0; have bl0 := Aside0.mk (show (ah0 R0 ∨ w.heap.size ≤ R0) from (q0.out.1 _ rfl)); (first | simp only [add_plain] at n2 | skip); (first | simp only [add_plain] at n3 | skip); obtain ⟨aY0, am0, aj0, ae0, ag0⟩ := Kd.R_elem q0.out z46 (((rd_T36 g1 e1).f0) : Int) p9 q9; obtain rfl := k46_openM aj0; have n6 : World.cell? _ ⟨R0, (((rd_T36 g1 e1).f0) : Int).toNat * 2, none⟩ = some (.int .i64 ((rd_T46 e0 ((rd_T36 g1 e1).f0)).f0)) := ae0 0 _ rfl; have n7 : World.cell? _ ⟨R0, (((rd_T36 g1 e1).f0) : Int).toNat * 2 + 1, none⟩ = some (.int .i64 ((rd_T46 e0 ((rd_T36 g1 e1).f0)).f1)) := ae0 1 _ rfl; have al0 : World.frozen? _ ⟨R0, (((rd_T36 g1 e1).f0) : Int).toNat * 2, none⟩ = false := ag0 0; have al1 : World.frozen? _ ⟨R0, (((rd_T36 g1 e1).f0) : Int).toNat * 2 + 1, none⟩ = false := ag0 1; clear am0 ae0 ag0 aj0; replace p9 := eq_true p9; replace q9 := eq_true q9; obtain ⟨aY1, am1, aj1, ae1, ag1⟩ := Kd.R_elem q0.out z46 (((rd_T36 g1 e1).f0) : Int) (of_decide_eq_true zq41_) zq85_; obtain rfl := k46_openM aj1; have ak0 := (Kd.R_seg q0.out (((rd_T36 g1 e1).f0) : Int) (of_decide_eq_true zq41_) zq85_ (seg := [.int .i64 a0, .int .i64 ((rd_T36 g1 e1).f1)]) (j := 0) am1 ae1 (show 2 ≤ 2 from by decide) (x' := (⟨a0, (rd_T36 g1 e1).f1⟩ : S46)) (k46_mkM _ _ _ (⟨a0, (rd_T36 g1 e1).f1⟩ : S46) ) (fun _ hk => hk)).1; rw [← aa0.out] at ak0; have bi0 := Aside0.mk ak0; clear am1 ae1 ag1 aj1 ak0; refine hK.out _ _ ⟨(blk_cell b0.out 0).trans rfl, (blk_cell b0.out 1).trans rfl, (blk_cell b0.out 2).trans rfl, (blk_cell b0.out 3).trans rfl, hHeld.2.2.2.2.1, hHeld.2.2.2.2.2.1, hHeld.2.2.2.2.2.2.1, hHeld.2.2.2.2.2.2.2⟩ (fun hHeld => ?_); clear hK K; refine norm_ (a' := ?_) ?_ ?_
    rotate_left
    ·show Act.put _ (some 28) _ = _; simp only [Act.put, List.setIfInBounds_toArray, List.set_cons_zero, List.set_cons_succ, i64_w, i32_w]; rfl
    refine pw_ 15 35 ?_; refine pw_ 16 36 ?_; refine last_ (i := 17) (N := none) #[true, true, true, true, true, true, true, true, true, true, true, true, true, true, true, true, true, true] rfl rfl (one_of HT_.out (by kernel_rfl)) (by decide) (fun K hK => ?_); refine skip_ (w1 := ?_) (by rfl) rfl ?_ ?_
    rotate_left
    ·go_simp
     rfl
    refine hK.out _ _ ?_; clear hK K; refine done_ (done_of HT_.out (by kernel_rfl)) ?_
    try go_wp2
    go_roundg k1
    case measure => have := Z0.out; omega
    case rel => exact ⟨(N0), (wrap64 (e1 + 1)), zq46_, H', ⟨by have := Z0.out; omega⟩, ⟨zq10_⟩, ⟨zq7f_⟩, ⟨by repeat (first | (with_reducible first | exact HK.out | apply Kept.alloc | apply Kept.drewN | apply Kept.drew | refine Kept.setCell ?_ bl0.out _ | refine Kept.setCell ?_ bl0.out _ | refine Kept.setCell ?_ (.inr y0.out) _) | exact HK.out)⟩, ⟨by repeat (first | (with_reducible first | exact HB.out | apply below_alloc | apply pw_below_drewN | apply below_drew1 | refine below_set ?_ aH0.out | refine below_set ?_ aH0.out | refine below_set ?_ p0.out) | exact HB.out)⟩⟩
   ·obtain rfl := Option.some.inj H; obtain ⟨k0, k2, k3, k4, l1, l2, l3, l4⟩ := bz4_ b0.out
    go_wp2
    go_ret
    exact ⟨_, zq45_, zq18_, zq58_, zq60_⟩

/-! ### spec_l1Copy: function 73 -/
def spec_l1Copy.f (l0 : List (S46)) : Option ((List (S46))) := (some (([] : List (S46)) : List (S46))).bind fun y422 => (if y422.length + l0.length < 8796093022208 then (some (y422 ++ l0)) else (none))
set_option maxHeartbeats 8000000 in
set_option maxRecDepth 100000 in
theorem spec_l1Copy.calls (A0 : Option Addr) (c0 : Nat) (l0 : List (S46)) (r : List (S46)) (w : World) (Y0 : Kd.C k46 w A0 l0.length l0) (ad0 : l0.length ≤ c0) (h : spec_l1Copy.f l0 = some r) :
  Calls Try.prog 73 #[.slice A0 l0.length c0] w fun e w' => ∃ v0_ : Value, e = .returned (v0_) ∧ Kd.R k46 46 w' w.heap.size (fun _ => True) v0_ r ∧ Below w.heap.size w w' := by
 have V0 := Aside0.mk Y0; have X0 := Aside0.mk ad0; clear Y0 ad0; have HB := Aside0.mk (Below.refl w.heap.size w); have H : ((some (([] : List (S46)) : List (S46))).bind fun N0 => (if N0.length + l0.length < 8796093022208 then (some (N0 ++ l0)) else (none))) = some r := h; clear h; obtain ⟨N0, K0⟩ : ∃ y_ : List (S46), y_ = (([] : List (S46))) := ⟨_, rfl⟩; replace H : (if N0.length + l0.length < 8796093022208 then (some (N0 ++ l0)) else (none)) = some r := by first | (rw [K0]; with_reducible exact H) | (have Q0 := (Option.bind_some _ _).symm.trans H; rw [K0]; with_reducible exact Q0) | (have Q0 := (Option.bind_some _ _).symm.trans H; with_reducible exact Q0) | with_reducible exact H | (rw [K0]; exact H) | exact H
 have aa0 := Aside0.mk K0; clear K0; replace H := ifp_ H; obtain ⟨c2, H⟩ := H; have bc0 := Aside0.mk c2; clear c2; obtain ⟨N1, K1⟩ : ∃ y_ : List (S46), y_ = (N0 ++ l0) := ⟨_, rfl⟩; replace H : (some N1) = some r := by first | (rw [K1]; with_reducible exact H) | (have Q0 := (Option.bind_some _ _).symm.trans H; rw [K1]; with_reducible exact Q0) | (have Q0 := (Option.bind_some _ _).symm.trans H; with_reducible exact Q0) | with_reducible exact H | (rw [K1]; exact H) | exact H
 have aa1 := Aside0.mk K1; clear K1; obtain rfl := Option.some.inj H
 go_enter Try.func73, Try.ntmps73
 go_wp2_with (first | ((with_reducible refine gate_dst (N := 3) rfl ?_); refine Kd.R_lit k46 _ 46 ?hg (N := 3) ?hd (xs := ([] : List (S46))) (inner := []) (ok := fun _ => True) (okp := fun _ => True) ?hr ?hp (fun _ hk => hk) trivial (Below.refl _ _) (Nat.le_refl _) (by simp) ?_; (case hd => rfl); (case hg => rfl); (case hr => first | (go_simp; done) | (go_simp; rfl)); (case hp => exact (Reps.none _ _)); intro S0 w3 D0 hb an ao; clear an ao; (first | rw [← aa0.out] at D0 | (simp only [Int.reduceToNat] at D0; rw [← aa0.out] at D0)); have n_ := A2_ (Kd.R_lower D0 (below_size zq59_)) (below_step zq59_ hb); clear HB; obtain ⟨f0, HB⟩ := n_; clear hb D0) | ((with_reducible refine gate_builtin (b := .append) (xs := #[.tmp 3, .tmp 4]) rfl ?_); at_builtin; refine Kd.R_append_rows k46 (w0 := w) w.heap.size rfl (.tmp 3) (.tmp 4) 23 46 (.agg #[(.int .i64 0), (.int .i64 0)]) 16 rfl Try.underlying23 info46 rfl (by decide) (by omega) S0 N0 l0 _ _ _ (fun _ => True) (fun _ => False) rfl rfl ?aO ?aR (fun _ _ h => h) (fun _ h => h.elim) ?aF ?aB ?aS ?aL ?_; (case aR => repeat (first | exact (Kd.C_below V0.out HB.out) | (with_reducible refine Kd.C_alloc ?_ _) | (with_reducible refine Kd.C_drewN ?_ _) | (with_reducible refine Kd.C_drew ?_))); (case aB => exact zq59_); (case aF => exact (fun _ _ => trivial)); (case aO => exact zq11_); (case aS => exact (below_size zq59_)); (case aL => have := bc0.out; omega); intro S1 w5 ho hb hg bd; rw [← aa1.out] at ho; have n_ := A2_ (hb) (ho); clear HB f0; obtain ⟨HB, f1⟩ := n_; clear ho hb hg bd))
 go_ret
 exact ⟨_, zq45_, zq12_, zq59_⟩

/-! ### spec_ExecDo: function 19 -/
def spec_ExecDo.j0 : Nat → List (S46) → Bool → List (S48) → List (S36) → Int → Int → Option ((List (S46)))
 | 0, _, _, _, _, _, _ => none
 | k + 1, x0, x12, x429000, x429001, x429002, x429003 => if x12 = true then (some (([] : List (S46)))) else ((spec_l1Copy.f x0).bind fun t434 => ((spec_l3Do.f k t434 x429000 x429001 x429002 x429003).bind fun t437 => (some t437)))
def spec_ExecDo.f (k : Nat) (l0 : List (S46)) (l1_0 : List (S48)) (l1_1 : List (S36)) (a1_2 : Int) (a1_3 : Int) : Option ((List (S46))) := (spec_BoxOk.f k l0).bind fun t429 => (if t429 = true then ((spec_ExecOk.f k l1_0 l1_1 a1_2 a1_3).bind fun t430 => (spec_ExecDo.j0 k l0 (!t430) l1_0 l1_1 a1_2 a1_3)) else (spec_ExecDo.j0 k l0 true l1_0 l1_1 a1_2 a1_3))
theorem spec_ExecDo.mono_l : ∀ k, (∀ y0 y1 y2 y3 y4 y5, LeO (spec_ExecDo.j0 k y0 y1 y2 y3 y4 y5) (spec_ExecDo.j0 (k + 1) y0 y1 y2 y3 y4 y5))
 | 0 => fun _ _ _ _ _ _ r h => by simp [spec_ExecDo.j0] at h
 | k + 1 => by
  have J0 := spec_ExecDo.mono_l k
  ·intro y0 y1 y2 y3 y4 y5
   unfold spec_ExecDo.j0
   repeat' first
   | (with_reducible exact J0 _ _ _ _ _ _)
   | (with_reducible exact spec_BoxOk.mono _ _)
   | (with_reducible exact spec_ExecOk.mono _ _ _ _ _)
   | (with_reducible exact spec_l3Do.mono _ _ _ _ _ _)
   | (with_reducible exact LeO.refl _)
   | (with_reducible exact LeO.none _)
   | (with_reducible refine LeO.ite ?_ ?_)
   | (with_reducible refine LeO.bind ?_ (fun _ => ?_))
   | exact J0 _ _ _ _ _ _
   | exact spec_BoxOk.mono _ _
   | exact spec_ExecOk.mono _ _ _ _ _
   | exact spec_l3Do.mono _ _ _ _ _ _
   | exact LeO.none _
   | refine LeO.ite ?_ ?_
   | refine LeO.bind ?_ (fun _ => ?_)
theorem spec_ExecDo.mono : ∀ a0 a1 a2 a3 a4 k, LeO (spec_ExecDo.f k a0 a1 a2 a3 a4) (spec_ExecDo.f (k + 1) a0 a1 a2 a3 a4) := by
 intro a0 a1 a2 a3 a4 k
 have J0 := spec_ExecDo.mono_l k
 unfold spec_ExecDo.f
 repeat' first
   | (with_reducible exact J0 _ _ _ _ _ _)
   | (with_reducible exact spec_BoxOk.mono _ _)
   | (with_reducible exact spec_ExecOk.mono _ _ _ _ _)
   | (with_reducible exact spec_l3Do.mono _ _ _ _ _ _)
   | (with_reducible exact LeO.refl _)
   | (with_reducible exact LeO.none _)
   | (with_reducible refine LeO.ite ?_ ?_)
   | (with_reducible refine LeO.bind ?_ (fun _ => ?_))
   | exact J0 _ _ _ _ _ _
   | exact spec_BoxOk.mono _ _
   | exact spec_ExecOk.mono _ _ _ _ _
   | exact spec_l3Do.mono _ _ _ _ _ _
   | exact LeO.none _
   | refine LeO.ite ?_ ?_
   | refine LeO.bind ?_ (fun _ => ?_)
set_option maxHeartbeats 8000000 in
set_option maxRecDepth 100000 in
theorem spec_ExecDo.calls (k : Nat) (A0 : Option Addr) (c0 : Nat) (l0 : List (S46)) (O0 : Option Addr) (I0 : Nat) (g0 : List (S48)) (O1 : Option Addr) (I1 : Nat) (g1 : List (S36)) (h0 : Int) (h1 : Int) (r : List (S46)) (w : World) (Y0 : Kd.C k46 w A0 l0.length l0) (ad0 : l0.length ≤ c0) (ar0 : Kd.C k48 w O0 g0.length g0) (au0 : g0.length ≤ I0) (ar1 : Kd.C k36 w O1 g1.length g1) (au1 : g1.length ≤ I1) (h : spec_ExecDo.f k l0 g0 g1 h0 h1 = some r) :
  Calls Try.prog 19 #[.slice A0 l0.length c0, .agg #[.slice O0 g0.length I0, .slice O1 g1.length I1, .int .i64 h0, .int .i64 h1]] w fun e w' => ∃ v0_ : Value, e = .returned (v0_) ∧ Kd.R k46 46 w' w.heap.size (fun _ => True) v0_ r ∧ Below w.heap.size w w' := by
 have aB0 := Try.underlying30; have V0 := Aside0.mk Y0; have X0 := Aside0.mk ad0; clear Y0 ad0; have af0 := Aside0.mk ar0; have aC0 := Aside0.mk au0; clear ar0 au0; have af1 := Aside0.mk ar1; have aC1 := Aside0.mk au1; clear ar1 au1; have HB := Aside0.mk (Below.refl w.heap.size w); have H : ((spec_BoxOk.f k l0).bind fun a0 => (if a0 = true then ((spec_ExecOk.f k g0 g1 h0 h1).bind fun a1 => (spec_ExecDo.j0 k l0 (!a1) g0 g1 h0 h1)) else (spec_ExecDo.j0 k l0 true g0 g1 h0 h1))) = some r := h; clear h; have X1 := Aside0.mk H; clear H
 go_enter Try.func19, Try.ntmps19
 go_upto_region 1 with (first | ((with_reducible refine gate_dst (N := 3) rfl ?_); refine bxe_ (N := 3) (cs := #[.slice O0 g0.length I0, .slice O1 g1.length I1, .int .i64 h0, .int .i64 h1]) (t := 30) ?_; intro c3 hg w4 H_ hb; have n_ := A4_ (below_step zq59_ hb) (H_) ((zq95_ : w.heap.size ≤ c3)) ((zq95_ : w.heap.size ≤ c3)); clear HB; obtain ⟨HB, b0, y0, p0⟩ := n_; clear hb H_ hg))
 (try simp only [Act.put, List.setIfInBounds_toArray, List.set_cons_zero, List.set_cons_succ])
 go_cut [12] (fun S0 wc => ∃ (kq : Nat) (e0 : Bool), S0 = .bool e0 ∧ Aside0 (spec_ExecDo.j0 kq l0 e0 g0 g1 h0 h1 = some r) ∧ Aside0 (kq ≤ k) ∧ Aside0 (wc.heap[c3]? = some (.cells #[(.slice O0 g0.length I0), (.slice O1 g1.length I1), .int .i64 h0, .int .i64 h1] 30 (0, 0))) ∧ Aside0 (Below w.heap.size w wc))
 case first =>
  have H := X1.out; clear X1; replace H := bs_ H; obtain ⟨a0, A5, H⟩ := H; (try dsimp only at H); replace H := ifB_ H
  rcases H with ⟨rfl, H⟩ | ⟨rfl, H⟩
  ·replace H := bs_ H; obtain ⟨a1, A7, H⟩ := H; (try dsimp only at H); have H' := Aside0.mk H; clear H
   go_wp2_with (first | ((with_reducible refine gate_callee (f := 24) rfl ?_); refine gl_ 6 Try.func24 #[.slice A0 l0.length c0] ?_; (with_reducible refine (spec_BoxOk.calls k _ _ l0 true _ ?_ ?_ A5.out).mono ?_); exact zq69_; exact X0.out; rintro e w' ⟨rfl, ⟨nd, rfl⟩⟩; refine ⟨_, rfl, ?_⟩; obtain ⟨k0, k1, k2, k3, l1, l2, l3, l4⟩ := bz4_ b0.out) | (go_at_call 21; (with_reducible refine (spec_ExecOk.calls k _ _ g0 _ _ g1 h0 h1 a1 _ ?_ ?_ ?_ ?_ A7.out).mono ?_); exact zq90_; exact aC0.out; exact zq91_; exact aC1.out; rintro e w9 ⟨rfl, hb⟩; have n_ := A2_ (blk_below (g := c3) (o := .cells #[.slice O0 g0.length I0, .slice O1 g1.length I1, .int .i64 h0, .int .i64 h1] 30 (0, 0)) zq1c_ hb) (below_step zq58_ hb); clear b0 HB; obtain ⟨b0, HB⟩ := n_; (try clear A7)))
   go_meet
   case rel => exact ⟨_, (!a1), zq46_, H', ⟨zq44_⟩, ⟨zq1c_⟩, ⟨zq58_⟩⟩
  ·have H' := Aside0.mk H; clear H
   go_wp2_with (first | ((with_reducible refine gate_callee (f := 24) rfl ?_); refine gl_ 6 Try.func24 #[.slice A0 l0.length c0] ?_; (with_reducible refine (spec_BoxOk.calls k _ _ l0 false _ ?_ ?_ A5.out).mono ?_); exact zq69_; exact X0.out; rintro e w' ⟨rfl, ⟨nd, rfl⟩⟩; refine ⟨_, rfl, ?_⟩))
   go_meet
   case rel => exact ⟨_, (true), zq46_, H', ⟨zq44_⟩, ⟨zq1c_⟩, ⟨zq58_⟩⟩
 case rest =>
  clear X1
  try clear c1
  try clear c2
  try clear p2
  try clear c6
  try clear k0 k1 k2 k3 l1 l2 l3 l4
  obtain ⟨kq, e0, rfl, HA, av0, b0, HB⟩ := hcut
  cases kq with
  | zero => exact absurd HA.out (by simp [spec_ExecDo.j0])
  | succ kj2 =>
   have H := HA.out; clear HA; simp only [spec_ExecDo.j0] at H; replace H := ifB_ H
   rcases H with ⟨rfl, H⟩ | ⟨rfl, H⟩
   ·obtain ⟨N0, K0⟩ : ∃ y_ : List (S46), y_ = (([] : List (S46))) := ⟨_, rfl⟩; replace H : (some N0) = some r := by first | (rw [K0]; with_reducible exact H) | (have Q0 := (Option.bind_some _ _).symm.trans H; rw [K0]; with_reducible exact Q0) | (have Q0 := (Option.bind_some _ _).symm.trans H; with_reducible exact Q0) | with_reducible exact H | (rw [K0]; exact H) | exact H
    have aa0 := Aside0.mk K0; clear K0; obtain rfl := Option.some.inj H
    go_wp2_with (first | ((with_reducible refine gate_dst (N := 13) rfl ?_); refine Kd.R_lit k46 _ 46 ?hg (N := 13) ?hd (xs := ([] : List (S46))) (inner := []) (ok := fun _ => True) (okp := fun _ => True) ?hr ?hp (fun _ hk => hk) trivial (Below.refl _ _) (Nat.le_refl _) (by simp) ?_; (case hd => rfl); (case hg => rfl); (case hr => first | (go_simp; done) | (go_simp; rfl)); (case hp => exact (Reps.none _ _)); intro S1 r0 D0 hb an ao; clear an ao; (first | rw [← aa0.out] at D0 | (simp only [Int.reduceToNat] at D0; rw [← aa0.out] at D0)); have n_ := A3_ (Kd.R_lower D0 (below_size zq58_)) (blk_below (g := c3) (o := .cells #[.slice O0 g0.length I0, .slice O1 g1.length I1, .int .i64 h0, .int .i64 h1] 30 (0, 0)) zq1c_ hb) (below_step zq58_ hb); clear b0 HB; obtain ⟨f0, b0, HB⟩ := n_; clear hb D0))
    go_ret
    exact ⟨_, zq45_, zq11_, zq58_⟩
   ·replace H := bs_ H; obtain ⟨a2, G0, H⟩ := H; (try dsimp only at H); replace H := bs_ H; obtain ⟨a3, G1, H⟩ := H; (try dsimp only at H); obtain rfl := Option.some.inj H
    try go_wp2
    have n_ := A2_ (blk_drew b0.out) (below_drew1 HB.out); clear b0 HB; obtain ⟨b0, HB⟩ := n_; refine start_ (n := 5) (S := fun w' => w'.cell? ⟨c3, 0, none⟩ = some (.slice O0 g0.length I0) ∧ w'.cell? ⟨c3, 1, none⟩ = some (.slice O1 g1.length I1) ∧ w'.cell? ⟨c3, 2, none⟩ = some (.int .i64 h0) ∧ w'.cell? ⟨c3, 3, none⟩ = some (.int .i64 h1)) (ds := []) #[false, false, false, false, false] (by kernel_rfl) rfl rfl ⟨(blk_cell b0.out 0).trans rfl, (blk_cell b0.out 1).trans rfl, (blk_cell b0.out 2).trans rfl, (blk_cell b0.out 3).trans rfl⟩ (fun hHeld => ?_); generalize wc.drew = r0 at b0 HB hHeld ⊢; refine pu_ (i := 0) (N := some 14) (v := ?_) (a' := ?_) rfl rfl (by kernel_rfl) (fun _ _ _ h => h) (Or.inl ⟨by rfl, ?_⟩) ?_ ?_; rotate_left; (· (intro w'; go_simp; with_reducible rfl)); rotate_left; (· (simp only [Act.put, List.setIfInBounds_toArray, List.set_cons_zero, List.set_cons_succ, i64_w, i32_w]; rfl)); refine ta_ (i := 2) (N := some 16) (v := ?_) (a' := ?_) rfl rfl (by kernel_rfl) (fun _ _ _ h => h) (Or.inl ⟨by rfl, ?_⟩) hHeld ?_ ?_
    rotate_left
    ·rintro w' ⟨s0, s1, s2, s3⟩
     go_simp
     with_reducible rfl
    rotate_left; (· (simp only [Act.put, List.setIfInBounds_toArray, List.set_cons_zero, List.set_cons_succ, i64_w, i32_w]; rfl))
    refine on_ (i := 1) (N := some 15) rfl rfl (by kernel_rfl) (by decide) (fun K hK => ?_); refine goes_ Try.func73 (by kernel_rfl) rfl #[.slice A0 l0.length c0] (by rfl) rfl rfl zq0_ ?_
    with_reducible refine (spec_l1Copy.calls _ _ l0 a2 _ ?side1 ?side2 G0.out).mono ?_
    (case side1 => exact zq69_); (case side2 => exact X0.out); rintro e r1 ⟨S1, rfl, D0, hb⟩; refine ⟨_, rfl, ?_⟩; have n_ := A3_ (Kd.R_lower D0 (below_size zq58_)) (blk_below (g := c3) (o := .cells #[.slice O0 g0.length I0, .slice O1 g1.length I1, .int .i64 h0, .int .i64 h1] 30 (0, 0)) zq1c_ hb) (below_step zq58_ hb); clear b0 HB; obtain ⟨f0, b0, HB⟩ := n_; (try clear hb); (try clear hb2); (try clear hk); (try clear hi); (try clear D0); obtain ⟨o0, m0, E0⟩ := Kd.R_slice f0.out; (first | subst E0 | (injection E0 with P0 P1 P2; have P3 := P0.symm; have P4 := P2.symm; clear P0 P1 P2; subst P3; subst P4)); refine hK.out _ _ ⟨(blk_cell b0.out 0).trans rfl, (blk_cell b0.out 1).trans rfl, (blk_cell b0.out 2).trans rfl, (blk_cell b0.out 3).trans rfl⟩ (fun hHeld => ?_); clear hK K; refine norm_ (a' := ?_) ?_ ?_
    rotate_left
    ·show Act.put _ (some 15) _ = _; simp only [Act.put, List.setIfInBounds_toArray, List.set_cons_zero, List.set_cons_succ, i64_w, i32_w]; rfl
    refine on_ (i := 3) (N := some 17) rfl rfl (by kernel_rfl) (by decide) (fun K hK => ?_); refine goes_ Try.func72 (by kernel_rfl) rfl #[.slice o0 a2.length m0, .agg #[.slice O0 g0.length I0, .slice O1 g1.length I1, .int .i64 h0, .int .i64 h1]] (by rfl) rfl rfl zq0_ ?_
    with_reducible refine (spec_l3Do.calls kj2 (fun k_ => some k_ = (.slice o0 a2.length m0 : Value).ownBlock) (.slice o0 a2.length m0) a2 _ _ g0 _ _ g1 h0 h1 a3 w _ ?side1 ?side2 ?side3 ?side4 ?side5 ?side6 G1.out).mono ?_
    (case side1 => exact zq58_); (case side2 => exact Kd.R_tight rfl f0.out); (case side3 => exact Kd.C_kept_came k48_heap af0.out zq58_ (fun k_ hs_ => (fun e_ => Kd.R_base f0.out k_ e_.symm) hs_)); (case side4 => exact aC0.out); (case side5 => exact Kd.C_kept_came k36_heap af1.out zq58_ (fun k_ hs_ => (fun e_ => Kd.R_base f0.out k_ e_.symm) hs_)); (case side6 => exact aC1.out); rintro e r2 ⟨S2, rfl, D0, hb, aF⟩; refine ⟨_, rfl, ?_⟩; have n_ := A3_ (blk_kept zq1c_ aF (fun hs_ => (fun e_ => (Kd.R_ne f0.out b0.out (by decide)) e_) hs_)) (Kd.R_mono (ok' := fun k_ => True) D0 (fun k_ aP => trivial)) (hb); clear b0 HB f0; obtain ⟨b0, f1, HB⟩ := n_; (try clear hb); (try clear aF); (try clear D0); refine hK.out _ _ ⟨(blk_cell b0.out 0).trans rfl, (blk_cell b0.out 1).trans rfl, (blk_cell b0.out 2).trans rfl, (blk_cell b0.out 3).trans rfl⟩ (fun hHeld => ?_); clear hK K; refine norm_ (a' := ?_) ?_ ?_
    rotate_left
    ·show Act.put _ (some 17) _ = _; simp only [Act.put, List.setIfInBounds_toArray, List.set_cons_zero, List.set_cons_succ, i64_w, i32_w]; rfl
    refine pu_ (i := 4) (N := some 4) (v := ?_) (a' := ?_) rfl rfl (by kernel_rfl) (fun _ _ _ h => h) (Or.inl ⟨by rfl, ?_⟩) ?_ ?_; rotate_left; (· (intro w'; go_simp; with_reducible rfl)); rotate_left; (· (simp only [Act.put, List.setIfInBounds_toArray, List.set_cons_zero, List.set_cons_succ, i64_w, i32_w]; rfl)); refine done_ (by kernel_rfl) ?_
    try go_wp2
    go_ret
    exact ⟨_, zq45_, zq12_, zq58_⟩

/-! ### impl_ExecFresh: function 22 -/
mutual
def impl_ExecFresh.j0 : Nat → List (S46) → Bool → List (S48) → List (S36) → Int → Int → Option (Bool)
 | 0, _, _, _, _, _, _ => none
 | k + 1, x0, x14, x441000, x441001, x441002, x441003 => if x14 = true then (some false) else (impl_ExecFresh.l0 k x0 x441000 (x441000.length : Int) 0)
def impl_ExecFresh.l0 : Nat → List (S46) → List (S48) → Int → Int → Option (Bool)
 | 0, _, _, _, _ => none
 | k + 1, x0, x16, x17, x18 => if x18 < x17 then (if 0 ≤ x18 then (if x18 < (x16.length : Int) then (if 0 ≤ ((rd_T48 x16 x18).f0) then (if ((rd_T48 x16 x18).f0) < (x0.length : Int) then (if ((rd_T46 x0 ((rd_T48 x16 x18).f0)).f0) = ((rd_T48 x16 x18).f1) then (impl_ExecFresh.l0 k x0 x16 x17 (wrap64 (x18 + 1))) else (some false)) else (none)) else (none)) else (none)) else (none)) else (some true)
end
def impl_ExecFresh.f (k : Nat) (l0 : List (S46)) (l1_0 : List (S48)) (l1_1 : List (S36)) (a1_2 : Int) (a1_3 : Int) : Option (Bool) := (impl_BoxOk.f k l0).bind fun t441 => (if t441 = true then ((impl_ExecOk.f k l1_0 l1_1 a1_2 a1_3).bind fun t442 => (impl_ExecFresh.j0 k l0 (!t442) l1_0 l1_1 a1_2 a1_3)) else (impl_ExecFresh.j0 k l0 true l1_0 l1_1 a1_2 a1_3))
theorem impl_ExecFresh.mono_l : ∀ k, (∀ y0 y1 y2 y3 y4 y5, LeO (impl_ExecFresh.j0 k y0 y1 y2 y3 y4 y5) (impl_ExecFresh.j0 (k + 1) y0 y1 y2 y3 y4 y5)) ∧ (∀ y0 y1 y2 y3, LeO (impl_ExecFresh.l0 k y0 y1 y2 y3) (impl_ExecFresh.l0 (k + 1) y0 y1 y2 y3))
 | 0 => ⟨fun _ _ _ _ _ _ r h => by simp [impl_ExecFresh.j0] at h, fun _ _ _ _ r h => by simp [impl_ExecFresh.l0] at h⟩
 | k + 1 => by
  obtain ⟨J0, J1⟩ := impl_ExecFresh.mono_l k
  refine ⟨?_, ?_⟩
  ·intro y0 y1 y2 y3 y4 y5
   unfold impl_ExecFresh.j0
   repeat' first
   | (with_reducible exact J0 _ _ _ _ _ _)
   | (with_reducible exact J1 _ _ _ _)
   | (with_reducible exact impl_BoxOk.mono _ _)
   | (with_reducible exact impl_ExecOk.mono _ _ _ _ _)
   | (with_reducible exact LeO.refl _)
   | (with_reducible exact LeO.none _)
   | (with_reducible refine LeO.ite ?_ ?_)
   | (with_reducible refine LeO.bind ?_ (fun _ => ?_))
   | exact J0 _ _ _ _ _ _
   | exact J1 _ _ _ _
   | exact impl_BoxOk.mono _ _
   | exact impl_ExecOk.mono _ _ _ _ _
   | exact LeO.none _
   | refine LeO.ite ?_ ?_
   | refine LeO.bind ?_ (fun _ => ?_)
  ·intro y0 y1 y2 y3
   unfold impl_ExecFresh.l0
   repeat' first
   | (with_reducible exact J0 _ _ _ _ _ _)
   | (with_reducible exact J1 _ _ _ _)
   | (with_reducible exact impl_BoxOk.mono _ _)
   | (with_reducible exact impl_ExecOk.mono _ _ _ _ _)
   | (with_reducible exact LeO.refl _)
   | (with_reducible exact LeO.none _)
   | (with_reducible refine LeO.ite ?_ ?_)
   | (with_reducible refine LeO.bind ?_ (fun _ => ?_))
   | exact J0 _ _ _ _ _ _
   | exact J1 _ _ _ _
   | exact impl_BoxOk.mono _ _
   | exact impl_ExecOk.mono _ _ _ _ _
   | exact LeO.none _
   | refine LeO.ite ?_ ?_
   | refine LeO.bind ?_ (fun _ => ?_)
theorem impl_ExecFresh.mono : ∀ a0 a1 a2 a3 a4 k, LeO (impl_ExecFresh.f k a0 a1 a2 a3 a4) (impl_ExecFresh.f (k + 1) a0 a1 a2 a3 a4) := by
 intro a0 a1 a2 a3 a4 k
 obtain ⟨J0, J1⟩ := impl_ExecFresh.mono_l k
 unfold impl_ExecFresh.f
 repeat' first
   | (with_reducible exact J0 _ _ _ _ _ _)
   | (with_reducible exact J1 _ _ _ _)
   | (with_reducible exact impl_BoxOk.mono _ _)
   | (with_reducible exact impl_ExecOk.mono _ _ _ _ _)
   | (with_reducible exact LeO.refl _)
   | (with_reducible exact LeO.none _)
   | (with_reducible refine LeO.ite ?_ ?_)
   | (with_reducible refine LeO.bind ?_ (fun _ => ?_))
   | exact J0 _ _ _ _ _ _
   | exact J1 _ _ _ _
   | exact impl_BoxOk.mono _ _
   | exact impl_ExecOk.mono _ _ _ _ _
   | exact LeO.none _
   | refine LeO.ite ?_ ?_
   | refine LeO.bind ?_ (fun _ => ?_)
set_option maxHeartbeats 8000000 in
set_option maxRecDepth 100000 in
theorem impl_ExecFresh.calls (k : Nat) (A0 : Option Addr) (c0 : Nat) (l0 : List (S46)) (O0 : Option Addr) (I0 : Nat) (g0 : List (S48)) (O1 : Option Addr) (I1 : Nat) (g1 : List (S36)) (h0 : Int) (h1 : Int) (r : Bool) (w : World) (Y0 : Kd.C k46 w A0 l0.length l0) (ad0 : l0.length ≤ c0) (ar0 : Kd.C k48 w O0 g0.length g0) (au0 : g0.length ≤ I0) (ar1 : Kd.C k36 w O1 g1.length g1) (au1 : g1.length ≤ I1) (h : impl_ExecFresh.f k l0 g0 g1 h0 h1 = some r) :
  Calls Try.prog 22 #[.slice A0 l0.length c0, .agg #[.slice O0 g0.length I0, .slice O1 g1.length I1, .int .i64 h0, .int .i64 h1]] w fun e w' => e = .returned (.bool r) ∧ Below w.heap.size w w' := by
 have aB0 := Try.underlying30; have aB1 := Try.underlying48; have V0 := Aside0.mk Y0; have X0 := Aside0.mk ad0; clear Y0 ad0; have af0 := Aside0.mk ar0; have aC0 := Aside0.mk au0; clear ar0 au0; have af1 := Aside0.mk ar1; have aC1 := Aside0.mk au1; clear ar1 au1; have HB := Aside0.mk (Below.refl w.heap.size w); have H : ((impl_BoxOk.f k l0).bind fun a0 => (if a0 = true then ((impl_ExecOk.f k g0 g1 h0 h1).bind fun a1 => (impl_ExecFresh.j0 k l0 (!a1) g0 g1 h0 h1)) else (impl_ExecFresh.j0 k l0 true g0 g1 h0 h1))) = some r := h; clear h; have X1 := Aside0.mk H; clear H
 go_enter Try.func22, Try.ntmps22
 go_upto_region 1 with (first | ((with_reducible refine gate_dst (N := 3) rfl ?_); refine bxe_ (N := 3) (cs := #[.slice O0 g0.length I0, .slice O1 g1.length I1, .int .i64 h0, .int .i64 h1]) (t := 30) ?_; intro c3 hg w4 H_ hb; have n_ := A4_ (below_step zq59_ hb) (H_) ((zq95_ : w.heap.size ≤ c3)) ((zq95_ : w.heap.size ≤ c3)); clear HB; obtain ⟨HB, b0, y0, p0⟩ := n_; clear hb H_ hg))
 repeat (go_quiet (first | ((with_reducible refine gate_dst (N := 3) rfl ?_); refine bxe_ (N := 3) (cs := #[.slice O0 g0.length I0, .slice O1 g1.length I1, .int .i64 h0, .int .i64 h1]) (t := 30) ?_; intro c3 hg w4 H_ hb; have n_ := A4_ (below_step zq59_ hb) (H_) ((zq95_ : w.heap.size ≤ c3)) ((zq95_ : w.heap.size ≤ c3)); clear HB; obtain ⟨HB, b0, y0, p0⟩ := n_; clear hb H_ hg)); go_upto_region 1 with (first | ((with_reducible refine gate_dst (N := 3) rfl ?_); refine bxe_ (N := 3) (cs := #[.slice O0 g0.length I0, .slice O1 g1.length I1, .int .i64 h0, .int .i64 h1]) (t := 30) ?_; intro c3 hg w4 H_ hb; have n_ := A4_ (below_step zq59_ hb) (H_) ((zq95_ : w.heap.size ≤ c3)) ((zq95_ : w.heap.size ≤ c3)); clear HB; obtain ⟨HB, b0, y0, p0⟩ := n_; clear hb H_ hg)))
 (try simp only [Act.put, List.setIfInBounds_toArray, List.set_cons_zero, List.set_cons_succ])
 go_cut [14] (fun S0 wc => ∃ (kq : Nat) (e0 : Bool), S0 = .bool e0 ∧ Aside0 (impl_ExecFresh.j0 kq l0 e0 g0 g1 h0 h1 = some r) ∧ Aside0 (kq ≤ k) ∧ Aside0 (wc.heap[c3]? = some (.cells #[(.slice O0 g0.length I0), (.slice O1 g1.length I1), .int .i64 h0, .int .i64 h1] 30 (0, 0))) ∧ Aside0 (Below w.heap.size w wc))
 case first =>
  have H := X1.out; clear X1; replace H := bs_ H; obtain ⟨a0, A5, H⟩ := H; (try dsimp only at H); replace H := ifB_ H
  rcases H with ⟨rfl, H⟩ | ⟨rfl, H⟩
  ·replace H := bs_ H; obtain ⟨a1, A7, H⟩ := H; (try dsimp only at H); have H' := Aside0.mk H; clear H
   go_wp2_with (first | (go_at_call 25; (with_reducible refine (impl_BoxOk.calls k _ _ l0 true _ ?_ ?_ A5.out).mono ?_); exact zq69_; exact X0.out; rintro e w8 ⟨rfl, hb⟩; have n_ := A2_ (blk_below (g := c3) (o := .cells #[.slice O0 g0.length I0, .slice O1 g1.length I1, .int .i64 h0, .int .i64 h1] 30 (0, 0)) zq1c_ hb) (below_step zq58_ hb); clear b0 HB; obtain ⟨b0, HB⟩ := n_; (try clear hb); (try clear A5); obtain ⟨k0, k1, k3, k4, l1, l2, l3, l4⟩ := bz4_ b0.out) | (go_at_call 20; (with_reducible refine (impl_ExecOk.calls k _ _ g0 _ _ g1 h0 h1 a1 _ ?_ ?_ ?_ ?_ A7.out).mono ?_); exact zq6a_; exact aC0.out; exact zq6b_; exact aC1.out; rintro e r0 ⟨rfl, hb⟩; have n_ := A2_ (blk_below (g := c3) (o := .cells #[.slice O0 g0.length I0, .slice O1 g1.length I1, .int .i64 h0, .int .i64 h1] 30 (0, 0)) zq1c_ hb) (below_step zq58_ hb); clear b0 HB; obtain ⟨b0, HB⟩ := n_; (try clear hb); (try clear A7)))
   repeat (go_quiet (first | (go_at_call 25; (with_reducible refine (impl_BoxOk.calls k _ _ l0 true _ ?_ ?_ A5.out).mono ?_); exact zq69_; exact X0.out; rintro e w8 ⟨rfl, hb⟩; have n_ := A2_ (blk_below (g := c3) (o := .cells #[.slice O0 g0.length I0, .slice O1 g1.length I1, .int .i64 h0, .int .i64 h1] 30 (0, 0)) zq1c_ hb) (below_step zq58_ hb); clear b0 HB; obtain ⟨b0, HB⟩ := n_; (try clear hb); (try clear A5); obtain ⟨k0, k1, k3, k4, l1, l2, l3, l4⟩ := bz4_ b0.out) | (go_at_call 20; (with_reducible refine (impl_ExecOk.calls k _ _ g0 _ _ g1 h0 h1 a1 _ ?_ ?_ ?_ ?_ A7.out).mono ?_); exact zq6a_; exact aC0.out; exact zq6b_; exact aC1.out; rintro e r0 ⟨rfl, hb⟩; have n_ := A2_ (blk_below (g := c3) (o := .cells #[.slice O0 g0.length I0, .slice O1 g1.length I1, .int .i64 h0, .int .i64 h1] 30 (0, 0)) zq1c_ hb) (below_step zq58_ hb); clear b0 HB; obtain ⟨b0, HB⟩ := n_; (try clear hb); (try clear A7))); try go_wp2_with (first | (go_at_call 25; (with_reducible refine (impl_BoxOk.calls k _ _ l0 true _ ?_ ?_ A5.out).mono ?_); exact zq69_; exact X0.out; rintro e w8 ⟨rfl, hb⟩; have n_ := A2_ (blk_below (g := c3) (o := .cells #[.slice O0 g0.length I0, .slice O1 g1.length I1, .int .i64 h0, .int .i64 h1] 30 (0, 0)) zq1c_ hb) (below_step zq58_ hb); clear b0 HB; obtain ⟨b0, HB⟩ := n_; (try clear hb); (try clear A5); obtain ⟨k0, k1, k3, k4, l1, l2, l3, l4⟩ := bz4_ b0.out) | (go_at_call 20; (with_reducible refine (impl_ExecOk.calls k _ _ g0 _ _ g1 h0 h1 a1 _ ?_ ?_ ?_ ?_ A7.out).mono ?_); exact zq6a_; exact aC0.out; exact zq6b_; exact aC1.out; rintro e r0 ⟨rfl, hb⟩; have n_ := A2_ (blk_below (g := c3) (o := .cells #[.slice O0 g0.length I0, .slice O1 g1.length I1, .int .i64 h0, .int .i64 h1] 30 (0, 0)) zq1c_ hb) (below_step zq58_ hb); clear b0 HB; obtain ⟨b0, HB⟩ := n_; (try clear hb); (try clear A7))))
   go_meet
   case rel => exact ⟨_, (!a1), zq46_, H', ⟨zq44_⟩, ⟨zq1c_⟩, ⟨zq58_⟩⟩
  ·have H' := Aside0.mk H; clear H
   go_wp2_with (first | (go_at_call 25; (with_reducible refine (impl_BoxOk.calls k _ _ l0 false _ ?_ ?_ A5.out).mono ?_); exact zq69_; exact X0.out; rintro e r0 ⟨rfl, hb⟩; have n_ := A2_ (blk_below (g := c3) (o := .cells #[.slice O0 g0.length I0, .slice O1 g1.length I1, .int .i64 h0, .int .i64 h1] 30 (0, 0)) zq1c_ hb) (below_step zq58_ hb); clear b0 HB; obtain ⟨b0, HB⟩ := n_; (try clear hb); (try clear A5)))
   repeat (go_quiet (first | (go_at_call 25; (with_reducible refine (impl_BoxOk.calls k _ _ l0 false _ ?_ ?_ A5.out).mono ?_); exact zq69_; exact X0.out; rintro e r0 ⟨rfl, hb⟩; have n_ := A2_ (blk_below (g := c3) (o := .cells #[.slice O0 g0.length I0, .slice O1 g1.length I1, .int .i64 h0, .int .i64 h1] 30 (0, 0)) zq1c_ hb) (below_step zq58_ hb); clear b0 HB; obtain ⟨b0, HB⟩ := n_; (try clear hb); (try clear A5))); try go_wp2_with (first | (go_at_call 25; (with_reducible refine (impl_BoxOk.calls k _ _ l0 false _ ?_ ?_ A5.out).mono ?_); exact zq69_; exact X0.out; rintro e r0 ⟨rfl, hb⟩; have n_ := A2_ (blk_below (g := c3) (o := .cells #[.slice O0 g0.length I0, .slice O1 g1.length I1, .int .i64 h0, .int .i64 h1] 30 (0, 0)) zq1c_ hb) (below_step zq58_ hb); clear b0 HB; obtain ⟨b0, HB⟩ := n_; (try clear hb); (try clear A5))))
   go_meet
   case rel => exact ⟨_, (true), zq46_, H', ⟨zq44_⟩, ⟨zq1c_⟩, ⟨zq58_⟩⟩
 case rest =>
  clear X1
  try clear c1
  try clear c2
  try clear p2
  try clear c6
  try clear k0 k1 k3 k4 l1 l2 l3 l4
  obtain ⟨kq, e0, rfl, HA, av0, b0, HB⟩ := hcut
  cases kq with
  | zero => exact absurd HA.out (by simp [impl_ExecFresh.j0])
  | succ kj2 =>
   have H := HA.out; clear HA; simp only [impl_ExecFresh.j0] at H; replace H := ifB_ H
   rcases H with ⟨rfl, H⟩ | ⟨rfl, H⟩
   ·obtain rfl := Option.some.inj H
    go_wp2
    repeat (go_quiet (fail); try go_wp2)
    go_ret
    exact ⟨zq45_, zq58_⟩
   ·have H' := Aside0.mk H; clear H; obtain ⟨k5, k6, k7, k8, l5, l6, l7, l8⟩ := bz4_ b0.out
    go_wp2
    repeat (go_quiet (fail); try go_wp2)
    go_loopg [18] kj2 (fun kq S1 w' => ∃ (e1 : Int), S1 = .int .i64 e1 ∧ Aside0 (impl_ExecFresh.l0 kq l0 g0 (g0.length : Int) e1 = some r) ∧ Aside0 (kq ≤ kj2) ∧ Aside0 (w'.heap[c3]? = some (.cells #[(.slice O0 g0.length I0), (.slice O1 g1.length I1), .int .i64 h0, .int .i64 h1] 30 (0, 0))) ∧ Aside0 (Below w.heap.size w w'))
    case atStart => exact ⟨(0), zq46_, H', ⟨Nat.le_refl _⟩, ⟨zq1c_⟩, ⟨zq58_⟩⟩
    case round =>
     clear H'
     try clear c1
     try clear c2
     try clear p2
     try clear c6
     try clear c12
     try clear k5 k6 k7 k8 l5 l6 l7 l8
     try clear k0 k1 k3 k4 l1 l2 l3 l4
     try clear p2
     obtain ⟨e1, rfl, HA, Z0, b0, HB⟩ := hrel
     cases gk with
     | zero => exact absurd HA.out (by simp [impl_ExecFresh.l0])
     | succ k2 =>
      have H := HA.out; clear HA; simp only [impl_ExecFresh.l0] at H; replace H := ifc_ H
      rcases H with ⟨c14b0, H⟩ | ⟨c14b0, H⟩
      ·replace H := ifd4_ H; obtain ⟨u0, u1, u2, u3, H⟩ := H; by_cases x0 : ((rd_T46 l0 ((rd_T48 g0 e1).f0)).f0) = ((rd_T48 g0 e1).f1)
       ·rw [if_pos x0] at H; have u4 : (((rd_T46 l0 ((rd_T48 g0 e1).f0)).f0) == ((rd_T48 g0 e1).f1)) = true := beq_iff_eq.mpr x0; have u5 : (((rd_T46 l0 ((rd_T48 g0 e1).f0)).f0) != ((rd_T48 g0 e1).f1)) = false := bne_eq_false_iff_eq.mpr x0; clear x0; have H' := Aside0.mk H; clear H; have t0 : 0 ≤ (e1 : Int) := of_decide_eq_true zq41_; have s0 : e1 < (g0.length : Int) := of_decide_eq_true zq41_; obtain ⟨v0, M0, n0, n1⟩ := at_T48 af0.out e1 t0 s0; cases M0; replace n0 := pb_ HB.out n0; replace n1 := pb_ HB.out n1; replace t0 := eq_true t0; replace s0 := eq_true s0
        go_wp2_with (first | ((with_reducible refine gate_dst (N := 6) rfl ?_); refine bxe_ (N := 6) (cs := #[.int .i64 0, .int .i64 0]) (t := 48) ?_; intro c4 hg r0 H_ hb; have n_ := A7_ (blk_below (g := c3) (o := .cells #[.slice (some v0) g0.length I0, .slice O1 g1.length I1, .int .i64 h0, .int .i64 h1] 30 (0, 0)) zq1c_ hb) (below_step zq58_ hb) (H_) ((zq94_ : w.heap.size ≤ c4)) ((zq94_ : w.heap.size ≤ c4)) ((zqb8_ : c3 ≠ c4)) ((zqa7_ : c4 ≠ c3)); clear b0 HB; obtain ⟨b0, HB, b1, y1, p1, i0, i1⟩ := n_; clear hb H_ hg; have T0 := i1.out; have U0 := i0.out; obtain ⟨k9, k10, l9, l10⟩ := bz2_ b1.out; have t1 : 0 ≤ (((rd_T48 g0 e1).f0) : Int) := of_decide_eq_true zq41_; have s1 : ((rd_T48 g0 e1).f0) < (l0.length : Int) := of_decide_eq_true zq41_; obtain ⟨v1, M1, n2, n3⟩ := at_T46 V0.out ((rd_T48 g0 e1).f0) t1 s1; cases M1; have B0 : v1.block ≠ c4 := Nat.ne_of_lt (Nat.lt_of_lt_of_le (by have := World.block_lt_of_cell? _ _ n2; first | rwa [add_block] at this | exact this) y1.out); have B1 : v1.block ≠ c4 := Nat.ne_of_lt (Nat.lt_of_lt_of_le (by have := World.block_lt_of_cell? _ _ n2; first | rwa [add_block] at this | exact this) y1.out); replace n2 := pb_ HB.out n2; replace n3 := pb_ HB.out n3; replace n2 := (cell_far (p := ⟨c4, 0, none⟩) zq39_ (.int .i64 ((rd_T48 g0 e1).f0))).trans n2; replace n3 := (cell_far (p := ⟨c4, 0, none⟩) zq39_ (.int .i64 ((rd_T48 g0 e1).f0))).trans n3; replace n2 := (cell_far (p := ⟨c4, 1, none⟩) zq3a_ (.int .i64 ((rd_T48 g0 e1).f1))).trans n2; replace n3 := (cell_far (p := ⟨c4, 1, none⟩) zq3a_ (.int .i64 ((rd_T48 g0 e1).f1))).trans n3; (try have aQ0 := fun (n_ : Nat) => (show ((((r0.drewN n_).setCell ⟨c4, 0, none⟩ (.int .i64 ((rd_T48 g0 e1).f0))).setCell ⟨c4, 1, none⟩ (.int .i64 ((rd_T48 g0 e1).f1)))).cell? _ = some _ from n2)); (try have aQ1 := fun (n_ : Nat) => (show ((((r0.drewN n_).setCell ⟨c4, 0, none⟩ (.int .i64 ((rd_T48 g0 e1).f0))).setCell ⟨c4, 1, none⟩ (.int .i64 ((rd_T48 g0 e1).f1)))).cell? _ = some _ from n3)); clear B0; clear B1; replace t1 := eq_true t1; replace s1 := eq_true s1))
        repeat (go_quiet (first | ((with_reducible refine gate_dst (N := 6) rfl ?_); refine bxe_ (N := 6) (cs := #[.int .i64 0, .int .i64 0]) (t := 48) ?_; intro c4 hg r0 H_ hb; have n_ := A7_ (blk_below (g := c3) (o := .cells #[.slice (some v0) g0.length I0, .slice O1 g1.length I1, .int .i64 h0, .int .i64 h1] 30 (0, 0)) zq1c_ hb) (below_step zq58_ hb) (H_) ((zq94_ : w.heap.size ≤ c4)) ((zq94_ : w.heap.size ≤ c4)) ((zqb8_ : c3 ≠ c4)) ((zqa7_ : c4 ≠ c3)); clear b0 HB; obtain ⟨b0, HB, b1, y1, p1, i0, i1⟩ := n_; clear hb H_ hg; have T0 := i1.out; have U0 := i0.out; obtain ⟨k9, k10, l9, l10⟩ := bz2_ b1.out; have t1 : 0 ≤ (((rd_T48 g0 e1).f0) : Int) := of_decide_eq_true zq41_; have s1 : ((rd_T48 g0 e1).f0) < (l0.length : Int) := of_decide_eq_true zq41_; obtain ⟨v1, M1, n2, n3⟩ := at_T46 V0.out ((rd_T48 g0 e1).f0) t1 s1; cases M1; have B0 : v1.block ≠ c4 := Nat.ne_of_lt (Nat.lt_of_lt_of_le (by have := World.block_lt_of_cell? _ _ n2; first | rwa [add_block] at this | exact this) y1.out); have B1 : v1.block ≠ c4 := Nat.ne_of_lt (Nat.lt_of_lt_of_le (by have := World.block_lt_of_cell? _ _ n2; first | rwa [add_block] at this | exact this) y1.out); replace n2 := pb_ HB.out n2; replace n3 := pb_ HB.out n3; replace n2 := (cell_far (p := ⟨c4, 0, none⟩) zq39_ (.int .i64 ((rd_T48 g0 e1).f0))).trans n2; replace n3 := (cell_far (p := ⟨c4, 0, none⟩) zq39_ (.int .i64 ((rd_T48 g0 e1).f0))).trans n3; replace n2 := (cell_far (p := ⟨c4, 1, none⟩) zq3a_ (.int .i64 ((rd_T48 g0 e1).f1))).trans n2; replace n3 := (cell_far (p := ⟨c4, 1, none⟩) zq3a_ (.int .i64 ((rd_T48 g0 e1).f1))).trans n3; (try have aQ0 := fun (n_ : Nat) => (show ((((r0.drewN n_).setCell ⟨c4, 0, none⟩ (.int .i64 ((rd_T48 g0 e1).f0))).setCell ⟨c4, 1, none⟩ (.int .i64 ((rd_T48 g0 e1).f1)))).cell? _ = some _ from n2)); (try have aQ1 := fun (n_ : Nat) => (show ((((r0.drewN n_).setCell ⟨c4, 0, none⟩ (.int .i64 ((rd_T48 g0 e1).f0))).setCell ⟨c4, 1, none⟩ (.int .i64 ((rd_T48 g0 e1).f1)))).cell? _ = some _ from n3)); clear B0; clear B1; replace t1 := eq_true t1; replace s1 := eq_true s1)); try go_wp2_with (first | ((with_reducible refine gate_dst (N := 6) rfl ?_); refine bxe_ (N := 6) (cs := #[.int .i64 0, .int .i64 0]) (t := 48) ?_; intro c4 hg r0 H_ hb; have n_ := A7_ (blk_below (g := c3) (o := .cells #[.slice (some v0) g0.length I0, .slice O1 g1.length I1, .int .i64 h0, .int .i64 h1] 30 (0, 0)) zq1c_ hb) (below_step zq58_ hb) (H_) ((zq94_ : w.heap.size ≤ c4)) ((zq94_ : w.heap.size ≤ c4)) ((zqb8_ : c3 ≠ c4)) ((zqa7_ : c4 ≠ c3)); clear b0 HB; obtain ⟨b0, HB, b1, y1, p1, i0, i1⟩ := n_; clear hb H_ hg; have T0 := i1.out; have U0 := i0.out; obtain ⟨k9, k10, l9, l10⟩ := bz2_ b1.out; have t1 : 0 ≤ (((rd_T48 g0 e1).f0) : Int) := of_decide_eq_true zq41_; have s1 : ((rd_T48 g0 e1).f0) < (l0.length : Int) := of_decide_eq_true zq41_; obtain ⟨v1, M1, n2, n3⟩ := at_T46 V0.out ((rd_T48 g0 e1).f0) t1 s1; cases M1; have B0 : v1.block ≠ c4 := Nat.ne_of_lt (Nat.lt_of_lt_of_le (by have := World.block_lt_of_cell? _ _ n2; first | rwa [add_block] at this | exact this) y1.out); have B1 : v1.block ≠ c4 := Nat.ne_of_lt (Nat.lt_of_lt_of_le (by have := World.block_lt_of_cell? _ _ n2; first | rwa [add_block] at this | exact this) y1.out); replace n2 := pb_ HB.out n2; replace n3 := pb_ HB.out n3; replace n2 := (cell_far (p := ⟨c4, 0, none⟩) zq39_ (.int .i64 ((rd_T48 g0 e1).f0))).trans n2; replace n3 := (cell_far (p := ⟨c4, 0, none⟩) zq39_ (.int .i64 ((rd_T48 g0 e1).f0))).trans n3; replace n2 := (cell_far (p := ⟨c4, 1, none⟩) zq3a_ (.int .i64 ((rd_T48 g0 e1).f1))).trans n2; replace n3 := (cell_far (p := ⟨c4, 1, none⟩) zq3a_ (.int .i64 ((rd_T48 g0 e1).f1))).trans n3; (try have aQ0 := fun (n_ : Nat) => (show ((((r0.drewN n_).setCell ⟨c4, 0, none⟩ (.int .i64 ((rd_T48 g0 e1).f0))).setCell ⟨c4, 1, none⟩ (.int .i64 ((rd_T48 g0 e1).f1)))).cell? _ = some _ from n2)); (try have aQ1 := fun (n_ : Nat) => (show ((((r0.drewN n_).setCell ⟨c4, 0, none⟩ (.int .i64 ((rd_T48 g0 e1).f0))).setCell ⟨c4, 1, none⟩ (.int .i64 ((rd_T48 g0 e1).f1)))).cell? _ = some _ from n3)); clear B0; clear B1; replace t1 := eq_true t1; replace s1 := eq_true s1)))
        go_roundg k2
        case measure => have := av0.out; have := Z0.out; omega
        case rel => exact ⟨(wrap64 (e1 + 1)), zq46_, H', ⟨zq4a_⟩, ⟨zq22_⟩, ⟨zq54_⟩⟩
       ·rw [if_neg x0] at H; have u4 : (((rd_T46 l0 ((rd_T48 g0 e1).f0)).f0) == ((rd_T48 g0 e1).f1)) = false := beq_eq_false_iff_ne.mpr x0; have u5 : (((rd_T46 l0 ((rd_T48 g0 e1).f0)).f0) != ((rd_T48 g0 e1).f1)) = true := bne_iff_ne.mpr x0; obtain rfl := Option.some.inj H; have t0 : 0 ≤ (e1 : Int) := of_decide_eq_true zq41_; have s0 : e1 < (g0.length : Int) := of_decide_eq_true zq41_; obtain ⟨v0, M0, n0, n1⟩ := at_T48 af0.out e1 t0 s0; cases M0; replace n0 := pb_ HB.out n0; replace n1 := pb_ HB.out n1; replace t0 := eq_true t0; replace s0 := eq_true s0
        go_wp2_with (first | ((with_reducible refine gate_dst (N := 6) rfl ?_); refine bxe_ (N := 6) (cs := #[.int .i64 0, .int .i64 0]) (t := 48) ?_; intro c4 hg r0 H_ hb; have n_ := A7_ (blk_below (g := c3) (o := .cells #[.slice (some v0) g0.length I0, .slice O1 g1.length I1, .int .i64 h0, .int .i64 h1] 30 (0, 0)) zq1c_ hb) (below_step zq58_ hb) (H_) ((zq94_ : w.heap.size ≤ c4)) ((zq94_ : w.heap.size ≤ c4)) ((zqb8_ : c3 ≠ c4)) ((zqa7_ : c4 ≠ c3)); clear b0 HB; obtain ⟨b0, HB, b1, y1, p1, i0, i1⟩ := n_; clear hb H_ hg; have T0 := i1.out; have U0 := i0.out; obtain ⟨k9, k10, l9, l10⟩ := bz2_ b1.out; have t1 : 0 ≤ (((rd_T48 g0 e1).f0) : Int) := of_decide_eq_true zq41_; have s1 : ((rd_T48 g0 e1).f0) < (l0.length : Int) := of_decide_eq_true zq41_; obtain ⟨v1, M1, n2, n3⟩ := at_T46 V0.out ((rd_T48 g0 e1).f0) t1 s1; cases M1; have B0 : v1.block ≠ c4 := Nat.ne_of_lt (Nat.lt_of_lt_of_le (by have := World.block_lt_of_cell? _ _ n2; first | rwa [add_block] at this | exact this) y1.out); have B1 : v1.block ≠ c4 := Nat.ne_of_lt (Nat.lt_of_lt_of_le (by have := World.block_lt_of_cell? _ _ n2; first | rwa [add_block] at this | exact this) y1.out); replace n2 := pb_ HB.out n2; replace n3 := pb_ HB.out n3; replace n2 := (cell_far (p := ⟨c4, 0, none⟩) zq39_ (.int .i64 ((rd_T48 g0 e1).f0))).trans n2; replace n3 := (cell_far (p := ⟨c4, 0, none⟩) zq39_ (.int .i64 ((rd_T48 g0 e1).f0))).trans n3; replace n2 := (cell_far (p := ⟨c4, 1, none⟩) zq3a_ (.int .i64 ((rd_T48 g0 e1).f1))).trans n2; replace n3 := (cell_far (p := ⟨c4, 1, none⟩) zq3a_ (.int .i64 ((rd_T48 g0 e1).f1))).trans n3; (try have aQ0 := fun (n_ : Nat) => (show ((((r0.drewN n_).setCell ⟨c4, 0, none⟩ (.int .i64 ((rd_T48 g0 e1).f0))).setCell ⟨c4, 1, none⟩ (.int .i64 ((rd_T48 g0 e1).f1)))).cell? _ = some _ from n2)); (try have aQ1 := fun (n_ : Nat) => (show ((((r0.drewN n_).setCell ⟨c4, 0, none⟩ (.int .i64 ((rd_T48 g0 e1).f0))).setCell ⟨c4, 1, none⟩ (.int .i64 ((rd_T48 g0 e1).f1)))).cell? _ = some _ from n3)); clear B0; clear B1; replace t1 := eq_true t1; replace s1 := eq_true s1))
        repeat (go_quiet (first | ((with_reducible refine gate_dst (N := 6) rfl ?_); refine bxe_ (N := 6) (cs := #[.int .i64 0, .int .i64 0]) (t := 48) ?_; intro c4 hg r0 H_ hb; have n_ := A7_ (blk_below (g := c3) (o := .cells #[.slice (some v0) g0.length I0, .slice O1 g1.length I1, .int .i64 h0, .int .i64 h1] 30 (0, 0)) zq1c_ hb) (below_step zq58_ hb) (H_) ((zq94_ : w.heap.size ≤ c4)) ((zq94_ : w.heap.size ≤ c4)) ((zqb8_ : c3 ≠ c4)) ((zqa7_ : c4 ≠ c3)); clear b0 HB; obtain ⟨b0, HB, b1, y1, p1, i0, i1⟩ := n_; clear hb H_ hg; have T0 := i1.out; have U0 := i0.out; obtain ⟨k9, k10, l9, l10⟩ := bz2_ b1.out; have t1 : 0 ≤ (((rd_T48 g0 e1).f0) : Int) := of_decide_eq_true zq41_; have s1 : ((rd_T48 g0 e1).f0) < (l0.length : Int) := of_decide_eq_true zq41_; obtain ⟨v1, M1, n2, n3⟩ := at_T46 V0.out ((rd_T48 g0 e1).f0) t1 s1; cases M1; have B0 : v1.block ≠ c4 := Nat.ne_of_lt (Nat.lt_of_lt_of_le (by have := World.block_lt_of_cell? _ _ n2; first | rwa [add_block] at this | exact this) y1.out); have B1 : v1.block ≠ c4 := Nat.ne_of_lt (Nat.lt_of_lt_of_le (by have := World.block_lt_of_cell? _ _ n2; first | rwa [add_block] at this | exact this) y1.out); replace n2 := pb_ HB.out n2; replace n3 := pb_ HB.out n3; replace n2 := (cell_far (p := ⟨c4, 0, none⟩) zq39_ (.int .i64 ((rd_T48 g0 e1).f0))).trans n2; replace n3 := (cell_far (p := ⟨c4, 0, none⟩) zq39_ (.int .i64 ((rd_T48 g0 e1).f0))).trans n3; replace n2 := (cell_far (p := ⟨c4, 1, none⟩) zq3a_ (.int .i64 ((rd_T48 g0 e1).f1))).trans n2; replace n3 := (cell_far (p := ⟨c4, 1, none⟩) zq3a_ (.int .i64 ((rd_T48 g0 e1).f1))).trans n3; (try have aQ0 := fun (n_ : Nat) => (show ((((r0.drewN n_).setCell ⟨c4, 0, none⟩ (.int .i64 ((rd_T48 g0 e1).f0))).setCell ⟨c4, 1, none⟩ (.int .i64 ((rd_T48 g0 e1).f1)))).cell? _ = some _ from n2)); (try have aQ1 := fun (n_ : Nat) => (show ((((r0.drewN n_).setCell ⟨c4, 0, none⟩ (.int .i64 ((rd_T48 g0 e1).f0))).setCell ⟨c4, 1, none⟩ (.int .i64 ((rd_T48 g0 e1).f1)))).cell? _ = some _ from n3)); clear B0; clear B1; replace t1 := eq_true t1; replace s1 := eq_true s1)); try go_wp2_with (first | ((with_reducible refine gate_dst (N := 6) rfl ?_); refine bxe_ (N := 6) (cs := #[.int .i64 0, .int .i64 0]) (t := 48) ?_; intro c4 hg r0 H_ hb; have n_ := A7_ (blk_below (g := c3) (o := .cells #[.slice (some v0) g0.length I0, .slice O1 g1.length I1, .int .i64 h0, .int .i64 h1] 30 (0, 0)) zq1c_ hb) (below_step zq58_ hb) (H_) ((zq94_ : w.heap.size ≤ c4)) ((zq94_ : w.heap.size ≤ c4)) ((zqb8_ : c3 ≠ c4)) ((zqa7_ : c4 ≠ c3)); clear b0 HB; obtain ⟨b0, HB, b1, y1, p1, i0, i1⟩ := n_; clear hb H_ hg; have T0 := i1.out; have U0 := i0.out; obtain ⟨k9, k10, l9, l10⟩ := bz2_ b1.out; have t1 : 0 ≤ (((rd_T48 g0 e1).f0) : Int) := of_decide_eq_true zq41_; have s1 : ((rd_T48 g0 e1).f0) < (l0.length : Int) := of_decide_eq_true zq41_; obtain ⟨v1, M1, n2, n3⟩ := at_T46 V0.out ((rd_T48 g0 e1).f0) t1 s1; cases M1; have B0 : v1.block ≠ c4 := Nat.ne_of_lt (Nat.lt_of_lt_of_le (by have := World.block_lt_of_cell? _ _ n2; first | rwa [add_block] at this | exact this) y1.out); have B1 : v1.block ≠ c4 := Nat.ne_of_lt (Nat.lt_of_lt_of_le (by have := World.block_lt_of_cell? _ _ n2; first | rwa [add_block] at this | exact this) y1.out); replace n2 := pb_ HB.out n2; replace n3 := pb_ HB.out n3; replace n2 := (cell_far (p := ⟨c4, 0, none⟩) zq39_ (.int .i64 ((rd_T48 g0 e1).f0))).trans n2; replace n3 := (cell_far (p := ⟨c4, 0, none⟩) zq39_ (.int .i64 ((rd_T48 g0 e1).f0))).trans n3; replace n2 := (cell_far (p := ⟨c4, 1, none⟩) zq3a_ (.int .i64 ((rd_T48 g0 e1).f1))).trans n2; replace n3 := (cell_far (p := ⟨c4, 1, none⟩) zq3a_ (.int .i64 ((rd_T48 g0 e1).f1))).trans n3; (try have aQ0 := fun (n_ : Nat) => (show ((((r0.drewN n_).setCell ⟨c4, 0, none⟩ (.int .i64 ((rd_T48 g0 e1).f0))).setCell ⟨c4, 1, none⟩ (.int .i64 ((rd_T48 g0 e1).f1)))).cell? _ = some _ from n2)); (try have aQ1 := fun (n_ : Nat) => (show ((((r0.drewN n_).setCell ⟨c4, 0, none⟩ (.int .i64 ((rd_T48 g0 e1).f0))).setCell ⟨c4, 1, none⟩ (.int .i64 ((rd_T48 g0 e1).f1)))).cell? _ = some _ from n3)); clear B0; clear B1; replace t1 := eq_true t1; replace s1 := eq_true s1)))
        go_ret
        exact ⟨zq45_, zq54_⟩
      ·obtain rfl := Option.some.inj H
       go_wp2
       repeat (go_quiet (fail); try go_wp2)
       go_ret
       exact ⟨zq45_, zq58_⟩

end Go.Proofs.Ytgdafcakefnpdaa.PFnExecDo

-- Laid by this session's program out of the translation (gen.sh).
import Derived.Test.YtgdafcakefnpdaaPFnExecDox0
import Derived.Test.YtgdafcakefnpdaaPFnExecDox2
import Derived.Test.YtgdafcakefnpdaaPFnExecDox9
namespace Go.Proofs.Ytgdafcakefnpdaa.PFnExecDo
open Go.RowKit Go.Proofs.YtgdafcakefnpdaaW.PrintWords Go.Proofs.YtgdafcakefnpdaaW.PrintLast Go.Proofs.YtgdafcakefnpdaaW.PrintMore
attribute [local go_sem] max2_int min2_int max_two min_two max_three min_three max_four min_four   -- for this text's walks alone
set_option linter.unusedVariables false
set_option linter.unusedSimpArgs false

/-! ### spec_DrawExecDo: function 16 -/
def spec_DrawExecDo.f (k : Nat) (l0 : List Int) : Option ((List (S46)) × (List (S48)) × (List (S36)) × Int × Int) := (spec_l15Open.f l0).bind fun bt349 => ((spec_l3Run.f k bt349.1 bt349.2).bind fun bt352 => (some (bt352.1, bt352.2.1, bt352.2.2.1, bt352.2.2.2.1, bt352.2.2.2.2.1)))
theorem spec_DrawExecDo.mono : ∀ a0 k, LeO (spec_DrawExecDo.f k a0) (spec_DrawExecDo.f (k + 1) a0) := by
 intro a0 k
 unfold spec_DrawExecDo.f
 repeat' first
   | (with_reducible exact spec_l3Run.mono _ _ _)
   | (with_reducible exact LeO.refl _)
   | (with_reducible exact LeO.none _)
   | (with_reducible refine LeO.ite ?_ ?_)
   | (with_reducible refine LeO.bind ?_ (fun _ => ?_))
   | exact spec_l3Run.mono _ _ _
   | exact LeO.none _
   | refine LeO.ite ?_ ?_
   | refine LeO.bind ?_ (fun _ => ?_)
set_option maxHeartbeats 8000000 in
set_option maxRecDepth 100000 in
theorem spec_DrawExecDo.calls (k : Nat) (A0 : Option Addr) (c0 : Nat) (l0 : List Int) (r1 : List (S46)) (r2 : List (S48)) (r3 : List (S36)) (r4 : Int) (r5 : Int) (w : World) (Y0 : Kd.C (Kd.int .u8) w A0 l0.length l0) (ad0 : l0.length ≤ c0) (h : spec_DrawExecDo.f k l0 = some (r1, r2, r3, r4, r5)) :
  Calls Try.prog 16 #[.slice A0 l0.length c0] w fun e w' => ∃ v0_ v1_ v2_ : Value, e = .returned (.tuple #[v0_, .agg #[v1_, v2_, .int .i64 r4, .int .i64 r5]]) ∧ Kd.R k46 46 w' w.heap.size (fun _ => True) v0_ r1 ∧ Kd.R k48 48 w' w.heap.size (fun _ => True) v1_ r2 ∧ Kd.R k36 36 w' w.heap.size (fun _ => True) v2_ r3 ∧ Below w.heap.size w w' := by
 have aB0 := Try.underlying30; have V0 := Aside0.mk Y0; have X0 := Aside0.mk ad0; clear Y0 ad0; have HB := Aside0.mk (Below.refl w.heap.size w); have H : ((spec_l15Open.f l0).bind fun F0 => ((spec_l3Run.f k F0.1 F0.2).bind fun F1 => (some (F1.1, F1.2.1, F1.2.2.1, F1.2.2.2.1, F1.2.2.2.2.1)))) = some (r1, r2, r3, r4, r5) := h; clear h; replace H := Option.bind_eq_some_iff.mp H; obtain ⟨⟨a0, a1⟩, G0, H⟩ := H; (try dsimp only at H); have A2 := Aside0.mk G0; clear G0; replace H := Option.bind_eq_some_iff.mp H; obtain ⟨⟨a2, a3, a4, a5, a6, a7⟩, G1, H⟩ := H; (try dsimp only at H); have A3 := Aside0.mk G1; clear G1; simp only [Option.some.injEq, Prod.mk.injEq] at H; obtain ⟨rfl, rfl, rfl, rfl, rfl⟩ := H
 go_enter Try.func16, Try.ntmps16
 go_wp2_with (first | ((with_reducible refine gate_dst (N := 3) rfl ?_); refine bxe_ (N := 3) (cs := #[.slice none 0 0, .slice none 0 0, .int .i64 0, .int .i64 0]) (t := 30) ?_; intro c1 hg w4 H_ hb; have n_ := A4_ (below_step zq59_ hb) (H_) ((zq95_ : w.heap.size ≤ c1)) ((zq95_ : w.heap.size ≤ c1)); clear HB; obtain ⟨HB, b0, y0, p0⟩ := n_; clear hb H_ hg) | ((with_reducible refine gate_callee (f := 57) rfl ?_); refine gl_ 5 Try.func57 #[.slice A0 l0.length c0] ?_; (with_reducible refine (spec_l15Open.calls _ _ l0 a0 a1 w _ ?_ ?_ ?_ A2.out).mono ?_); exact zq58_; exact V0.out; exact X0.out; rintro e w5 ⟨bL0, rfl, hi, hb, bh0⟩; refine ⟨_, rfl, ?_⟩; have n_ := A5_ (blk_below (g := c1) (o := .cells #[.slice none 0 0, .slice none 0 0, .int .i64 0, .int .i64 0] 30 (0, 0)) zq1c_ bh0) (hb) (hi) (IsS110.ne_blk hi (blk_below (g := c1) (o := .cells #[.slice none 0 0, .slice none 0 0, .int .i64 0, .int .i64 0] 30 (0, 0)) zq1c_ bh0) (by decide)) (Ne.symm (IsS110.ne_blk hi (blk_below (g := c1) (o := .cells #[.slice none 0 0, .slice none 0 0, .int .i64 0, .int .i64 0] 30 (0, 0)) zq1c_ bh0) (by decide))); clear b0 HB; obtain ⟨b0, HB, j0, i0, i1⟩ := n_; (try clear hb)) | ((with_reducible refine gate_callee (f := 69) rfl ?_); refine gl_ 6 Try.func69 #[.pointer (some ⟨bL0, 0, none⟩)] ?_; (with_reducible refine (spec_l3Run.calls k bL0 a0 a1 a2 a3 a4 a5 a6 a7 w _ ?_ ?_ A3.out).mono ?_); exact zq66_; exact zq4d_; rintro e w6 ⟨S0, S1, S2, rfl, D0, D1, D2, hi, hb, hk⟩; refine ⟨_, rfl, ?_⟩; have n_ := A6_ (KeepBut.blk hk (g' := c1) (o := .cells #[.slice none 0 0, .slice none 0 0, .int .i64 0, .int .i64 0] 30 (0, 0)) zq1c_ i1.out (by simp)) (Kd.R_lower D0 (below_size zq4d_)) (Kd.R_lower D1 (below_size zq4d_)) (Kd.R_lower D2 (below_size zq4d_)) (hb) (hi); clear b0 HB j0; obtain ⟨b0, f0, f1, f2, HB, j0⟩ := n_; (try clear hb); (try clear D0); (try clear D1); (try clear D2); obtain ⟨o0, m0, E0⟩ := Kd.R_slice f1.out; subst E0; have T0 := i1.out; have U0 := i0.out; obtain ⟨k0, k1, k2, k3, l1, l2, l3, l4⟩ := bz4_ b0.out; obtain ⟨o1, m1, E1⟩ := Kd.R_slice f2.out; subst E1))
 refine bodyPost_ret (results_tc rfl _ _ c1 30 #[.slice o0 a3.length m0, .slice o1 a4.length m1, .int .i64 a5, .int .i64 a6] (0, 0) _ rfl (by (with_reducible repeat (first | refine blk_drewN ?_ _ | refine blk_drew ?_ | refine blk_alloc ?_ _)); refine blk_put (cs := #[.slice o0 a3.length m0, .slice o1 a4.length m1, .int .i64 a5, .int .i64 0]) ?_ 3 _ rfl; (with_reducible repeat (first | refine blk_drewN ?_ _ | refine blk_drew ?_ | refine blk_alloc ?_ _)); refine blk_put (cs := #[.slice o0 a3.length m0, .slice o1 a4.length m1, .int .i64 0, .int .i64 0]) ?_ 2 _ rfl; (with_reducible repeat (first | refine blk_drewN ?_ _ | refine blk_drew ?_ | refine blk_alloc ?_ _)); refine blk_put (cs := #[.slice o0 a3.length m0, .slice none 0 0, .int .i64 0, .int .i64 0]) ?_ 1 _ rfl; (with_reducible repeat (first | refine blk_drewN ?_ _ | refine blk_drew ?_ | refine blk_alloc ?_ _)); refine blk_put (cs := #[.slice none 0 0, .slice none 0 0, .int .i64 0, .int .i64 0]) ?_ 0 _ rfl; (with_reducible repeat (first | refine blk_drewN ?_ _ | refine blk_drew ?_ | refine blk_alloc ?_ _)); exact b0.out) Try.underlying30 rfl (by kernel_rfl)) rfl ?_; exact ⟨_, _, _, zq45_, by (with_reducible repeat (first | apply Kd.R_alloc | apply Kd.R_drewN | apply Kd.R_drew)); exact Kd.R_mono (Kd.R_far (p := ⟨c1, 3, none⟩) (Kd.R_far (p := ⟨c1, 2, none⟩) (Kd.R_far (p := ⟨c1, 1, none⟩) (Kd.R_far (p := ⟨c1, 0, none⟩) (Kd.R_types f0.out b0.out (by decide)) (fun _ hk => hk.2) (.slice o0 a3.length m0)) (fun _ hk => hk.2) (.slice o1 a4.length m1)) (fun _ hk => hk.2) (.int .i64 a5)) (fun _ hk => hk.2) (.int .i64 a6)) (fun _ hk => trivial), by (with_reducible repeat (first | apply Kd.R_alloc | apply Kd.R_drewN | apply Kd.R_drew)); exact Kd.R_mono (Kd.R_far (p := ⟨c1, 3, none⟩) (Kd.R_far (p := ⟨c1, 2, none⟩) (Kd.R_far (p := ⟨c1, 1, none⟩) (Kd.R_far (p := ⟨c1, 0, none⟩) (Kd.R_types f1.out b0.out (by decide)) (fun _ hk => hk.2) (.slice o0 a3.length m0)) (fun _ hk => hk.2) (.slice o1 a4.length m1)) (fun _ hk => hk.2) (.int .i64 a5)) (fun _ hk => hk.2) (.int .i64 a6)) (fun _ hk => trivial), by (with_reducible repeat (first | apply Kd.R_alloc | apply Kd.R_drewN | apply Kd.R_drew)); exact Kd.R_mono (Kd.R_far (p := ⟨c1, 3, none⟩) (Kd.R_far (p := ⟨c1, 2, none⟩) (Kd.R_far (p := ⟨c1, 1, none⟩) (Kd.R_far (p := ⟨c1, 0, none⟩) (Kd.R_types f2.out b0.out (by decide)) (fun _ hk => hk.2) (.slice o0 a3.length m0)) (fun _ hk => hk.2) (.slice o1 a4.length m1)) (fun _ hk => hk.2) (.int .i64 a5)) (fun _ hk => hk.2) (.int .i64 a6)) (fun _ hk => trivial), zq4d_⟩

/-! ### impl_in: function 64 -/
def impl_in.f (a0 : Int) (a1 : Int) (a2 : Int) : Option (Bool) := if a0 ≥ a1 then (some (decide (a0 ≤ a2))) else (some false)
set_option maxHeartbeats 8000000 in
set_option maxRecDepth 100000 in
theorem impl_in.calls (a0 : Int) (a1 : Int) (a2 : Int) (r : Bool) (w : World) (h : impl_in.f a0 a1 a2 = some r) :
  Calls Try.prog 64 #[.int .i64 a0, .int .i64 a1, .int .i64 a2] w fun e w' => e = .returned (.bool r) ∧ Drawn0 w w' := by
 have H : (if a0 ≥ a1 then (some (decide (a0 ≤ a2))) else (some false)) = some r := h; clear h; replace H := ifc_ H
 rcases H with ⟨c4b0, H⟩ | ⟨c4b0, H⟩
 ·change decide (a1 ≤ a0) = true at c4b0; obtain rfl := Option.some.inj H
  go_enter Try.func64, Try.ntmps64
  go_wp2
  go_ret
  exact ⟨zq46_, zq79_⟩
 ·change decide (a1 ≤ a0) = false at c4b0; obtain rfl := Option.some.inj H
  go_enter Try.func64, Try.ntmps64
  go_wp2
  go_ret
  exact ⟨zq46_, zq79_⟩

end Go.Proofs.Ytgdafcakefnpdaa.PFnExecDo

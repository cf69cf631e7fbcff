-- Laid by this session's program out of the translation (gen.sh).
import Derived.Test.YtgdafcakefnpdaaPFnExecx0
import Derived.Test.YtgdafcakefnpdaaPFnExecx1
import Derived.Test.YtgdafcakefnpdaaPFnExecx2
namespace Go.Proofs.Ytgdafcakefnpdaa.PFnExec
open Go.RowKit Go.Proofs.YtgdafcakefnpdaaW.PrintWords Go.Proofs.YtgdafcakefnpdaaW.PrintLast Go.Proofs.YtgdafcakefnpdaaW.PrintMore
attribute [local go_sem] max2_int min2_int max_two min_two max_three min_three max_four min_four   -- for this text's walks alone
set_option linter.unusedVariables false
set_option linter.unusedSimpArgs false

attribute [local go_sem high] eqA36 eqA48
/-! ### impl_same_impl_Read: function 66 -/
def impl_same_impl_Read.l0 : Nat → List (S48) → List (S48) → Int → Int → Option (Bool)
 | 0, _, _, _, _ => none
 | k + 1, x0, x1, x12, x13 => if x13 < x12 then (if 0 ≤ x13 then (if x13 < (x0.length : Int) then (if x13 < (x1.length : Int) then (if (!(((rd_T48 x0 x13).f0) == ((rd_T48 x1 x13).f0)) || (!(((rd_T48 x0 x13).f1) == ((rd_T48 x1 x13).f1)))) = true then (some false) else (impl_same_impl_Read.l0 k x0 x1 x12 (wrap64 (x13 + 1)))) else (none)) else (none)) else (none)) else (some true)
def impl_same_impl_Read.f (k : Nat) (l0 : List (S48)) (l1 : List (S48)) : Option (Bool) := if (l0.length : Int) = (l1.length : Int) then (impl_same_impl_Read.l0 k l0 l1 (l0.length : Int) 0) else (some false)
theorem impl_same_impl_Read.mono_l : ∀ k, (∀ y0 y1 y2 y3, LeO (impl_same_impl_Read.l0 k y0 y1 y2 y3) (impl_same_impl_Read.l0 (k + 1) y0 y1 y2 y3))
 | 0 => fun _ _ _ _ r h => by simp [impl_same_impl_Read.l0] at h
 | k + 1 => by
  have H0 := impl_same_impl_Read.mono_l k
  ·intro y0 y1 y2 y3
   unfold impl_same_impl_Read.l0
   repeat' first
   | (with_reducible exact H0 _ _ _ _)
   | (with_reducible exact LeO.refl _)
   | (with_reducible exact LeO.none _)
   | (with_reducible refine LeO.ite ?_ ?_)
   | (with_reducible refine LeO.bind ?_ (fun _ => ?_))
   | exact H0 _ _ _ _
   | exact LeO.none _
   | refine LeO.ite ?_ ?_
   | refine LeO.bind ?_ (fun _ => ?_)
theorem impl_same_impl_Read.mono : ∀ a0 a1 k, LeO (impl_same_impl_Read.f k a0 a1) (impl_same_impl_Read.f (k + 1) a0 a1) := by
 intro a0 a1 k
 have H0 := impl_same_impl_Read.mono_l k
 unfold impl_same_impl_Read.f
 repeat' first
   | (with_reducible exact H0 _ _ _ _)
   | (with_reducible exact LeO.refl _)
   | (with_reducible exact LeO.none _)
   | (with_reducible refine LeO.ite ?_ ?_)
   | (with_reducible refine LeO.bind ?_ (fun _ => ?_))
   | exact H0 _ _ _ _
   | exact LeO.none _
   | refine LeO.ite ?_ ?_
   | refine LeO.bind ?_ (fun _ => ?_)
set_option maxHeartbeats 8000000 in
set_option maxRecDepth 100000 in
theorem impl_same_impl_Read.calls (k : Nat) (A0 : Option Addr) (c0 : Nat) (l0 : List (S48)) (A1 : Option Addr) (c1 : Nat) (l1 : List (S48)) (r : Bool) (w : World) (Y0 : Kd.C k48 w A0 l0.length l0) (ac0 : l0.length ≤ c0) (Y1 : Kd.C k48 w A1 l1.length l1) (ac1 : l1.length ≤ c1) (h : impl_same_impl_Read.f k l0 l1 = some r) :
  Calls Try.prog 66 #[.slice A0 l0.length c0, .slice A1 l1.length c1] w fun e w' => e = .returned (.bool r) ∧ Drawn0 w w' := by
 have ap0 := Try.underlying48; have V0 := Aside0.mk Y0; have ae0 := Aside0.mk ac0; clear Y0 ac0; have V1 := Aside0.mk Y1; have ae1 := Aside0.mk ac1; clear Y1 ac1; have H : (if (l0.length : Int) = (l1.length : Int) then (impl_same_impl_Read.l0 k l0 l1 (l0.length : Int) 0) else (some false)) = some r := h; clear h; by_cases c3 : (l0.length : Int) = (l1.length : Int)
 ·rw [if_pos c3] at H; have s0 : ((l0.length : Int) == (l1.length : Int)) = true := beq_iff_eq.mpr c3; have s1 : ((l0.length : Int) != (l1.length : Int)) = false := bne_eq_false_iff_eq.mpr c3; have s2 : (l0.length == l1.length) = true := by first | simpa using c3 | (simp at c3 ⊢; omega)
  clear c3; have H' := Aside0.mk H; clear H
  go_enter Try.func66, Try.ntmps66
  go_wp2
  repeat (go_quiet (fail); try go_wp2)
  go_loopg [13] k (fun kq X0 w' => ∃ (a0 : Int), X0 = .int .i64 a0 ∧ Aside0 (impl_same_impl_Read.l0 kq l0 l1 (l0.length : Int) a0 = some r) ∧ Aside0 (kq ≤ k) ∧ Drawn0 w w')
  case atStart => exact ⟨(0), zq5a_, H', ⟨Nat.le_refl _⟩, zq8d_⟩
  case round =>
   clear H'
   try clear c1
   try clear p2
   try clear c3
   try clear s0
   try clear s1
   try clear s2
   obtain ⟨a0, rfl, HA, Z0, ⟨m1, rfl⟩⟩ := hrel
   cases gk with
   | zero => exact absurd HA.out (by simp [impl_same_impl_Read.l0])
   | succ k1 =>
    have H := HA.out; clear HA; simp only [impl_same_impl_Read.l0] at H; replace H := ifc_ H
    rcases H with ⟨c4b0, H⟩ | ⟨c4b0, H⟩
    ·replace H := ifd3_ H; obtain ⟨s3, s4, s5, H⟩ := H; by_cases c8 : (!(((rd_T48 l0 a0).f0) == ((rd_T48 l1 a0).f0)) || (!(((rd_T48 l0 a0).f1) == ((rd_T48 l1 a0).f1)))) = true
     ·rw [if_pos c8] at H; have s6 : (!(((rd_T48 l0 a0).f0) == ((rd_T48 l1 a0).f0)) || (!(((rd_T48 l0 a0).f1) == ((rd_T48 l1 a0).f1)))) = true := c8; clear c8; obtain rfl := Option.some.inj H; have u0 : 0 ≤ (a0 : Int) := of_decide_eq_true zq55_; have t0 : a0 < (l0.length : Int) := of_decide_eq_true zq55_; obtain ⟨F0, Q0, q0, q1⟩ := at_T48 V0.out a0 u0 t0; cases Q0; replace u0 := eq_true u0; replace t0 := eq_true t0; have u1 : 0 ≤ (a0 : Int) := of_decide_eq_true zq55_; have t1 : a0 < (l1.length : Int) := of_decide_eq_true zq55_; obtain ⟨F1, Q1, q2, q3⟩ := at_T48 V1.out a0 u1 t1; cases Q1; replace u1 := eq_true u1; replace t1 := eq_true t1
      go_wp2
      repeat (go_quiet (fail); try go_wp2)
      go_ret
      exact ⟨zq5a_, zq8d_⟩
     ·rw [if_neg c8] at H; have s6 : (!(((rd_T48 l0 a0).f0) == ((rd_T48 l1 a0).f0)) || (!(((rd_T48 l0 a0).f1) == ((rd_T48 l1 a0).f1)))) = false := by simpa using c8
      clear c8; have H' := Aside0.mk H; clear H; have u0 : 0 ≤ (a0 : Int) := of_decide_eq_true zq55_; have t0 : a0 < (l0.length : Int) := of_decide_eq_true zq55_; obtain ⟨F0, Q0, q0, q1⟩ := at_T48 V0.out a0 u0 t0; cases Q0; replace u0 := eq_true u0; replace t0 := eq_true t0; have u1 : 0 ≤ (a0 : Int) := of_decide_eq_true zq55_; have t1 : a0 < (l1.length : Int) := of_decide_eq_true zq55_; obtain ⟨F1, Q1, q2, q3⟩ := at_T48 V1.out a0 u1 t1; cases Q1; replace u1 := eq_true u1; replace t1 := eq_true t1
      go_wp2
      repeat (go_quiet (fail); try go_wp2)
      go_roundg k1
      case measure => have := Z0.out; omega
      case rel => exact ⟨(wrap64 (a0 + 1)), zq5a_, H', ⟨by have := Z0.out; omega⟩, zq8d_⟩
    ·obtain rfl := Option.some.inj H
     go_wp2
     repeat (go_quiet (fail); try go_wp2)
     go_ret
     exact ⟨zq5a_, zq8d_⟩
 ·rw [if_neg c3] at H; have s0 : ((l0.length : Int) == (l1.length : Int)) = false := beq_eq_false_iff_ne.mpr c3; have s1 : ((l0.length : Int) != (l1.length : Int)) = true := bne_iff_ne.mpr c3; have s2 : (l0.length == l1.length) = false := by first | simpa using c3 | (simp at c3 ⊢; omega)
  obtain rfl := Option.some.inj H
  go_enter Try.func66, Try.ntmps66
  go_wp2
  repeat (go_quiet (fail); try go_wp2)
  go_ret
  exact ⟨zq5a_, zq8d_⟩

/-! ### impl_same_impl_Put: function 67 -/
def impl_same_impl_Put.l0 : Nat → List (S36) → List (S36) → Int → Int → Option (Bool)
 | 0, _, _, _, _ => none
 | k + 1, x0, x1, x12, x13 => if x13 < x12 then (if 0 ≤ x13 then (if x13 < (x0.length : Int) then (if x13 < (x1.length : Int) then (if (!(((rd_T36 x0 x13).f0) == ((rd_T36 x1 x13).f0)) || (!(((rd_T36 x0 x13).f1) == ((rd_T36 x1 x13).f1)))) = true then (some false) else (impl_same_impl_Put.l0 k x0 x1 x12 (wrap64 (x13 + 1)))) else (none)) else (none)) else (none)) else (some true)
def impl_same_impl_Put.f (k : Nat) (l0 : List (S36)) (l1 : List (S36)) : Option (Bool) := if (l0.length : Int) = (l1.length : Int) then (impl_same_impl_Put.l0 k l0 l1 (l0.length : Int) 0) else (some false)
theorem impl_same_impl_Put.mono_l : ∀ k, (∀ y0 y1 y2 y3, LeO (impl_same_impl_Put.l0 k y0 y1 y2 y3) (impl_same_impl_Put.l0 (k + 1) y0 y1 y2 y3))
 | 0 => fun _ _ _ _ r h => by simp [impl_same_impl_Put.l0] at h
 | k + 1 => by
  have H0 := impl_same_impl_Put.mono_l k
  ·intro y0 y1 y2 y3
   unfold impl_same_impl_Put.l0
   repeat' first
   | (with_reducible exact H0 _ _ _ _)
   | (with_reducible exact LeO.refl _)
   | (with_reducible exact LeO.none _)
   | (with_reducible refine LeO.ite ?_ ?_)
   | (with_reducible refine LeO.bind ?_ (fun _ => ?_))
   | exact H0 _ _ _ _
   | exact LeO.none _
   | refine LeO.ite ?_ ?_
   | refine LeO.bind ?_ (fun _ => ?_)
theorem impl_same_impl_Put.mono : ∀ a0 a1 k, LeO (impl_same_impl_Put.f k a0 a1) (impl_same_impl_Put.f (k + 1) a0 a1) := by
 intro a0 a1 k
 have H0 := impl_same_impl_Put.mono_l k
 unfold impl_same_impl_Put.f
 repeat' first
   | (with_reducible exact H0 _ _ _ _)
   | (with_reducible exact LeO.refl _)
   | (with_reducible exact LeO.none _)
   | (with_reducible refine LeO.ite ?_ ?_)
   | (with_reducible refine LeO.bind ?_ (fun _ => ?_))
   | exact H0 _ _ _ _
   | exact LeO.none _
   | refine LeO.ite ?_ ?_
   | refine LeO.bind ?_ (fun _ => ?_)
set_option maxHeartbeats 8000000 in
set_option maxRecDepth 100000 in
theorem impl_same_impl_Put.calls (k : Nat) (A0 : Option Addr) (c0 : Nat) (l0 : List (S36)) (A1 : Option Addr) (c1 : Nat) (l1 : List (S36)) (r : Bool) (w : World) (Y0 : Kd.C k36 w A0 l0.length l0) (ac0 : l0.length ≤ c0) (Y1 : Kd.C k36 w A1 l1.length l1) (ac1 : l1.length ≤ c1) (h : impl_same_impl_Put.f k l0 l1 = some r) :
  Calls Try.prog 67 #[.slice A0 l0.length c0, .slice A1 l1.length c1] w fun e w' => e = .returned (.bool r) ∧ Drawn0 w w' := by
 have ap0 := Try.underlying36; have V0 := Aside0.mk Y0; have ae0 := Aside0.mk ac0; clear Y0 ac0; have V1 := Aside0.mk Y1; have ae1 := Aside0.mk ac1; clear Y1 ac1; have H : (if (l0.length : Int) = (l1.length : Int) then (impl_same_impl_Put.l0 k l0 l1 (l0.length : Int) 0) else (some false)) = some r := h; clear h; by_cases c3 : (l0.length : Int) = (l1.length : Int)
 ·rw [if_pos c3] at H; have s0 : ((l0.length : Int) == (l1.length : Int)) = true := beq_iff_eq.mpr c3; have s1 : ((l0.length : Int) != (l1.length : Int)) = false := bne_eq_false_iff_eq.mpr c3; have s2 : (l0.length == l1.length) = true := by first | simpa using c3 | (simp at c3 ⊢; omega)
  clear c3; have H' := Aside0.mk H; clear H
  go_enter Try.func67, Try.ntmps67
  go_wp2
  repeat (go_quiet (fail); try go_wp2)
  go_loopg [13] k (fun kq X0 w' => ∃ (a0 : Int), X0 = .int .i64 a0 ∧ Aside0 (impl_same_impl_Put.l0 kq l0 l1 (l0.length : Int) a0 = some r) ∧ Aside0 (kq ≤ k) ∧ Drawn0 w w')
  case atStart => exact ⟨(0), zq5a_, H', ⟨Nat.le_refl _⟩, zq8d_⟩
  case round =>
   clear H'
   try clear c1
   try clear p2
   try clear c3
   try clear s0
   try clear s1
   try clear s2
   obtain ⟨a0, rfl, HA, Z0, ⟨m1, rfl⟩⟩ := hrel
   cases gk with
   | zero => exact absurd HA.out (by simp [impl_same_impl_Put.l0])
   | succ k1 =>
    have H := HA.out; clear HA; simp only [impl_same_impl_Put.l0] at H; replace H := ifc_ H
    rcases H with ⟨c4b0, H⟩ | ⟨c4b0, H⟩
    ·replace H := ifd3_ H; obtain ⟨s3, s4, s5, H⟩ := H; by_cases c8 : (!(((rd_T36 l0 a0).f0) == ((rd_T36 l1 a0).f0)) || (!(((rd_T36 l0 a0).f1) == ((rd_T36 l1 a0).f1)))) = true
     ·rw [if_pos c8] at H; have s6 : (!(((rd_T36 l0 a0).f0) == ((rd_T36 l1 a0).f0)) || (!(((rd_T36 l0 a0).f1) == ((rd_T36 l1 a0).f1)))) = true := c8; clear c8; obtain rfl := Option.some.inj H; have u0 : 0 ≤ (a0 : Int) := of_decide_eq_true zq55_; have t0 : a0 < (l0.length : Int) := of_decide_eq_true zq55_; obtain ⟨F0, Q0, q0, q1⟩ := at_T36 V0.out a0 u0 t0; cases Q0; replace u0 := eq_true u0; replace t0 := eq_true t0; have u1 : 0 ≤ (a0 : Int) := of_decide_eq_true zq55_; have t1 : a0 < (l1.length : Int) := of_decide_eq_true zq55_; obtain ⟨F1, Q1, q2, q3⟩ := at_T36 V1.out a0 u1 t1; cases Q1; replace u1 := eq_true u1; replace t1 := eq_true t1
      go_wp2
      repeat (go_quiet (fail); try go_wp2)
      go_ret
      exact ⟨zq5a_, zq8d_⟩
     ·rw [if_neg c8] at H; have s6 : (!(((rd_T36 l0 a0).f0) == ((rd_T36 l1 a0).f0)) || (!(((rd_T36 l0 a0).f1) == ((rd_T36 l1 a0).f1)))) = false := by simpa using c8
      clear c8; have H' := Aside0.mk H; clear H; have u0 : 0 ≤ (a0 : Int) := of_decide_eq_true zq55_; have t0 : a0 < (l0.length : Int) := of_decide_eq_true zq55_; obtain ⟨F0, Q0, q0, q1⟩ := at_T36 V0.out a0 u0 t0; cases Q0; replace u0 := eq_true u0; replace t0 := eq_true t0; have u1 : 0 ≤ (a0 : Int) := of_decide_eq_true zq55_; have t1 : a0 < (l1.length : Int) := of_decide_eq_true zq55_; obtain ⟨F1, Q1, q2, q3⟩ := at_T36 V1.out a0 u1 t1; cases Q1; replace u1 := eq_true u1; replace t1 := eq_true t1
      go_wp2
      repeat (go_quiet (fail); try go_wp2)
      go_roundg k1
      case measure => have := Z0.out; omega
      case rel => exact ⟨(wrap64 (a0 + 1)), zq5a_, H', ⟨by have := Z0.out; omega⟩, zq8d_⟩
    ·obtain rfl := Option.some.inj H
     go_wp2
     repeat (go_quiet (fail); try go_wp2)
     go_ret
     exact ⟨zq5a_, zq8d_⟩
 ·rw [if_neg c3] at H; have s0 : ((l0.length : Int) == (l1.length : Int)) = false := beq_eq_false_iff_ne.mpr c3; have s1 : ((l0.length : Int) != (l1.length : Int)) = true := bne_iff_ne.mpr c3; have s2 : (l0.length == l1.length) = false := by first | simpa using c3 | (simp at c3 ⊢; omega)
  obtain rfl := Option.some.inj H
  go_enter Try.func67, Try.ntmps67
  go_wp2
  repeat (go_quiet (fail); try go_wp2)
  go_ret
  exact ⟨zq5a_, zq8d_⟩

/-! ### impl_ExecSame: function 14 -/
def impl_ExecSame.f (k : Nat) (l0_0 : List (S48)) (l0_1 : List (S36)) (a0_2 : Int) (a0_3 : Int) (l1_0 : List (S48)) (l1_1 : List (S36)) (a1_2 : Int) (a1_3 : Int) : Option (Bool) := (impl_same_impl_Read.f k l0_0 l1_0).bind fun t302 => (if t302 = true then ((impl_same_impl_Put.f k l0_1 l1_1).bind fun t303 => (if t303 = true then (if a0_2 = a1_2 then (some (a0_3 == a1_3)) else (some false)) else (some false))) else (some false))
theorem impl_ExecSame.mono : ∀ a0 a1 a2 a3 a4 a5 a6 a7 k, LeO (impl_ExecSame.f k a0 a1 a2 a3 a4 a5 a6 a7) (impl_ExecSame.f (k + 1) a0 a1 a2 a3 a4 a5 a6 a7) := by
 intro a0 a1 a2 a3 a4 a5 a6 a7 k
 unfold impl_ExecSame.f
 repeat' first
   | (with_reducible exact impl_same_impl_Put.mono _ _ _)
   | (with_reducible exact impl_same_impl_Read.mono _ _ _)
   | (with_reducible exact LeO.refl _)
   | (with_reducible exact LeO.none _)
   | (with_reducible refine LeO.ite ?_ ?_)
   | (with_reducible refine LeO.bind ?_ (fun _ => ?_))
   | exact impl_same_impl_Put.mono _ _ _
   | exact impl_same_impl_Read.mono _ _ _
   | exact LeO.none _
   | refine LeO.ite ?_ ?_
   | refine LeO.bind ?_ (fun _ => ?_)
set_option maxHeartbeats 8000000 in
set_option maxRecDepth 100000 in
theorem impl_ExecSame.calls (k : Nat) (P0 : Option Addr) (J0 : Nat) (n0 : List (S48)) (P1 : Option Addr) (J1 : Nat) (n1 : List (S36)) (g0 : Int) (g1 : Int) (P2 : Option Addr) (J2 : Nat) (n2 : List (S48)) (P3 : Option Addr) (J3 : Nat) (n3 : List (S36)) (g2 : Int) (g3 : Int) (r : Bool) (w : World) (ay0 : Kd.C k48 w P0 n0.length n0) (az0 : n0.length ≤ J0) (ay1 : Kd.C k36 w P1 n1.length n1) (az1 : n1.length ≤ J1) (ay2 : Kd.C k48 w P2 n2.length n2) (az2 : n2.length ≤ J2) (ay3 : Kd.C k36 w P3 n3.length n3) (az3 : n3.length ≤ J3) (h : impl_ExecSame.f k n0 n1 g0 g1 n2 n3 g2 g3 = some r) :
  Calls Try.prog 14 #[.agg #[.slice P0 n0.length J0, .slice P1 n1.length J1, .int .i64 g0, .int .i64 g1], .agg #[.slice P2 n2.length J2, .slice P3 n3.length J3, .int .i64 g2, .int .i64 g3]] w fun e w' => e = .returned (.bool r) ∧ Below w.heap.size w w' := by
 have ap0 := Try.underlying30; have an0 := Aside0.mk ay0; have aD0 := Aside0.mk az0; clear ay0 az0; have an1 := Aside0.mk ay1; have aD1 := Aside0.mk az1; clear ay1 az1; have an2 := Aside0.mk ay2; have aD2 := Aside0.mk az2; clear ay2 az2; have an3 := Aside0.mk ay3; have aD3 := Aside0.mk az3; clear ay3 az3; have HB := Aside0.mk (Below.refl w.heap.size w); have H : ((impl_same_impl_Read.f k n0 n2).bind fun e0 => (if e0 = true then ((impl_same_impl_Put.f k n1 n3).bind fun e1 => (if e1 = true then (if g0 = g2 then (some (g1 == g3)) else (some false)) else (some false))) else (some false))) = some r := h; clear h; replace H := bs_ H; obtain ⟨e0, A3, H⟩ := H; (try dsimp only at H); replace H := ifB_ H
 rcases H with ⟨rfl, H⟩ | ⟨rfl, H⟩
 ·replace H := bs_ H; obtain ⟨e1, A5, H⟩ := H; (try dsimp only at H); replace H := ifB_ H
  rcases H with ⟨rfl, H⟩ | ⟨rfl, H⟩
  ·by_cases c7 : g0 = g2
   ·rw [if_pos c7] at H; have s0 : (g0 == g2) = true := beq_iff_eq.mpr c7; have s1 : (g0 != g2) = false := bne_eq_false_iff_eq.mpr c7; clear c7; obtain rfl := Option.some.inj H
    go_enter Try.func14, Try.ntmps14
    go_wp2_with (first | ((with_reducible refine gate_dst (N := 2) rfl ?_); refine bxe_ (N := 2) (cs := #[.slice P0 n0.length J0, .slice P1 n1.length J1, .int .i64 g0, .int .i64 g1]) (t := 30) ?_; intro c0 hg w8 y hb; have n_ := A4_ (below_step zq6c_ hb) (y) ((zqa8_ : w.heap.size ≤ c0)) ((zqa8_ : w.heap.size ≤ c0)); clear HB; obtain ⟨HB, b0, x0, l0⟩ := n_; clear hb y hg) | ((with_reducible refine gate_dst (N := 3) rfl ?_); refine bxe_ (N := 3) (cs := #[.slice P2 n2.length J2, .slice P3 n3.length J3, .int .i64 g2, .int .i64 g3]) (t := 30) ?_; intro c1 hg w9 y hb; have n_ := A7_ (blk_below (g := c0) (o := .cells #[.slice P0 n0.length J0, .slice P1 n1.length J1, .int .i64 g0, .int .i64 g1] 30 (0, 0)) zq25_ hb) (below_step zq62_ hb) (y) ((zqa3_ : w.heap.size ≤ c1)) ((zqa3_ : w.heap.size ≤ c1)) ((zqc1_ : c0 ≠ c1)) ((zqb0_ : c1 ≠ c0)); clear b0 HB; obtain ⟨b0, HB, b1, x1, l1, f0, f1⟩ := n_; clear hb y hg; have N0 := f0.out; have O0 := f1.out; obtain ⟨h0, h1, h2, h3, i0, i1, i2, i3⟩ := bz4_ b0.out; obtain ⟨h4, h5, h6, h7, i4, i5, i6, i7⟩ := bz4_ b1.out) | ((with_reducible refine gate_callee (f := 66) rfl ?_); refine gl_ 9 Try.func66 #[.slice P0 n0.length J0, .slice P2 n2.length J2] ?_; (with_reducible refine (impl_same_impl_Read.calls k _ _ n0 _ _ n2 true _ ?_ ?_ ?_ ?_ A3.out).mono ?_); exact zq7c_; exact aD0.out; exact zq7e_; exact aD2.out; rintro e w' ⟨rfl, ⟨nd, rfl⟩⟩; refine ⟨_, rfl, ?_⟩) | (go_at_call 67; (with_reducible refine (impl_same_impl_Put.calls k _ _ n1 _ _ n3 true _ ?_ ?_ ?_ ?_ A5.out).mono ?_); exact zqa1_; exact aD1.out; exact zqa2_; exact aD3.out; rintro e w' ⟨rfl, ⟨nd, rfl⟩⟩; (try clear A5)))
    go_ret
    exact ⟨zq59_, zq61_⟩
   ·rw [if_neg c7] at H; have s0 : (g0 == g2) = false := beq_eq_false_iff_ne.mpr c7; have s1 : (g0 != g2) = true := bne_iff_ne.mpr c7; obtain rfl := Option.some.inj H
    go_enter Try.func14, Try.ntmps14
    go_wp2_with (first | ((with_reducible refine gate_dst (N := 2) rfl ?_); refine bxe_ (N := 2) (cs := #[.slice P0 n0.length J0, .slice P1 n1.length J1, .int .i64 g0, .int .i64 g1]) (t := 30) ?_; intro c0 hg r0 y hb; have n_ := A4_ (below_step zq6c_ hb) (y) ((zqa8_ : w.heap.size ≤ c0)) ((zqa8_ : w.heap.size ≤ c0)); clear HB; obtain ⟨HB, b0, x0, l0⟩ := n_; clear hb y hg) | ((with_reducible refine gate_dst (N := 3) rfl ?_); refine bxe_ (N := 3) (cs := #[.slice P2 n2.length J2, .slice P3 n3.length J3, .int .i64 g2, .int .i64 g3]) (t := 30) ?_; intro c1 hg r1 y hb; have n_ := A7_ (blk_below (g := c0) (o := .cells #[.slice P0 n0.length J0, .slice P1 n1.length J1, .int .i64 g0, .int .i64 g1] 30 (0, 0)) zq25_ hb) (below_step zq62_ hb) (y) ((zqa3_ : w.heap.size ≤ c1)) ((zqa3_ : w.heap.size ≤ c1)) ((zqc1_ : c0 ≠ c1)) ((zqb0_ : c1 ≠ c0)); clear b0 HB; obtain ⟨b0, HB, b1, x1, l1, f0, f1⟩ := n_; clear hb y hg; have N0 := f0.out; have O0 := f1.out; obtain ⟨h0, h1, h2, h3, i0, i1, i2, i3⟩ := bz4_ b0.out; obtain ⟨h4, h5, h6, h7, i4, i5, i6, i7⟩ := bz4_ b1.out) | ((with_reducible refine gate_callee (f := 66) rfl ?_); refine gl_ 9 Try.func66 #[.slice P0 n0.length J0, .slice P2 n2.length J2] ?_; (with_reducible refine (impl_same_impl_Read.calls k _ _ n0 _ _ n2 true _ ?_ ?_ ?_ ?_ A3.out).mono ?_); exact zq7c_; exact aD0.out; exact zq7e_; exact aD2.out; rintro e w' ⟨rfl, ⟨nd, rfl⟩⟩; refine ⟨_, rfl, ?_⟩) | (go_at_call 67; (with_reducible refine (impl_same_impl_Put.calls k _ _ n1 _ _ n3 true _ ?_ ?_ ?_ ?_ A5.out).mono ?_); exact zqa1_; exact aD1.out; exact zqa2_; exact aD3.out; rintro e w' ⟨rfl, ⟨nd, rfl⟩⟩; (try clear A5)))
    go_ret
    exact ⟨zq59_, zq61_⟩
  ·obtain rfl := Option.some.inj H
   go_enter Try.func14, Try.ntmps14
   go_wp2_with (first | ((with_reducible refine gate_dst (N := 2) rfl ?_); refine bxe_ (N := 2) (cs := #[.slice P0 n0.length J0, .slice P1 n1.length J1, .int .i64 g0, .int .i64 g1]) (t := 30) ?_; intro c0 hg r0 y hb; have n_ := A4_ (below_step zq6c_ hb) (y) ((zqa8_ : w.heap.size ≤ c0)) ((zqa8_ : w.heap.size ≤ c0)); clear HB; obtain ⟨HB, b0, x0, l0⟩ := n_; clear hb y hg) | ((with_reducible refine gate_dst (N := 3) rfl ?_); refine bxe_ (N := 3) (cs := #[.slice P2 n2.length J2, .slice P3 n3.length J3, .int .i64 g2, .int .i64 g3]) (t := 30) ?_; intro c1 hg r1 y hb; have n_ := A7_ (blk_below (g := c0) (o := .cells #[.slice P0 n0.length J0, .slice P1 n1.length J1, .int .i64 g0, .int .i64 g1] 30 (0, 0)) zq25_ hb) (below_step zq62_ hb) (y) ((zqa3_ : w.heap.size ≤ c1)) ((zqa3_ : w.heap.size ≤ c1)) ((zqc1_ : c0 ≠ c1)) ((zqb0_ : c1 ≠ c0)); clear b0 HB; obtain ⟨b0, HB, b1, x1, l1, f0, f1⟩ := n_; clear hb y hg; have N0 := f0.out; have O0 := f1.out; obtain ⟨h0, h1, h2, h3, i0, i1, i2, i3⟩ := bz4_ b0.out; obtain ⟨h4, h5, h6, h7, i4, i5, i6, i7⟩ := bz4_ b1.out) | ((with_reducible refine gate_callee (f := 66) rfl ?_); refine gl_ 9 Try.func66 #[.slice P0 n0.length J0, .slice P2 n2.length J2] ?_; (with_reducible refine (impl_same_impl_Read.calls k _ _ n0 _ _ n2 true _ ?_ ?_ ?_ ?_ A3.out).mono ?_); exact zq7c_; exact aD0.out; exact zq7e_; exact aD2.out; rintro e w' ⟨rfl, ⟨nd, rfl⟩⟩; refine ⟨_, rfl, ?_⟩) | (go_at_call 67; (with_reducible refine (impl_same_impl_Put.calls k _ _ n1 _ _ n3 false _ ?_ ?_ ?_ ?_ A5.out).mono ?_); exact zqa1_; exact aD1.out; exact zqa2_; exact aD3.out; rintro e w' ⟨rfl, ⟨nd, rfl⟩⟩; (try clear A5)))
   go_ret
   exact ⟨zq59_, zq61_⟩
 ·obtain rfl := Option.some.inj H
  go_enter Try.func14, Try.ntmps14
  go_wp2_with (first | ((with_reducible refine gate_dst (N := 2) rfl ?_); refine bxe_ (N := 2) (cs := #[.slice P0 n0.length J0, .slice P1 n1.length J1, .int .i64 g0, .int .i64 g1]) (t := 30) ?_; intro c0 hg r0 y hb; have n_ := A4_ (below_step zq6c_ hb) (y) ((zqa8_ : w.heap.size ≤ c0)) ((zqa8_ : w.heap.size ≤ c0)); clear HB; obtain ⟨HB, b0, x0, l0⟩ := n_; clear hb y hg) | ((with_reducible refine gate_dst (N := 3) rfl ?_); refine bxe_ (N := 3) (cs := #[.slice P2 n2.length J2, .slice P3 n3.length J3, .int .i64 g2, .int .i64 g3]) (t := 30) ?_; intro c1 hg r1 y hb; have n_ := A7_ (blk_below (g := c0) (o := .cells #[.slice P0 n0.length J0, .slice P1 n1.length J1, .int .i64 g0, .int .i64 g1] 30 (0, 0)) zq25_ hb) (below_step zq62_ hb) (y) ((zqa3_ : w.heap.size ≤ c1)) ((zqa3_ : w.heap.size ≤ c1)) ((zqc1_ : c0 ≠ c1)) ((zqb0_ : c1 ≠ c0)); clear b0 HB; obtain ⟨b0, HB, b1, x1, l1, f0, f1⟩ := n_; clear hb y hg; have N0 := f0.out; have O0 := f1.out; obtain ⟨h0, h1, h2, h3, i0, i1, i2, i3⟩ := bz4_ b0.out; obtain ⟨h4, h5, h6, h7, i4, i5, i6, i7⟩ := bz4_ b1.out) | ((with_reducible refine gate_callee (f := 66) rfl ?_); refine gl_ 9 Try.func66 #[.slice P0 n0.length J0, .slice P2 n2.length J2] ?_; (with_reducible refine (impl_same_impl_Read.calls k _ _ n0 _ _ n2 false _ ?_ ?_ ?_ ?_ A3.out).mono ?_); exact zq7c_; exact aD0.out; exact zq7e_; exact aD2.out; rintro e w' ⟨rfl, ⟨nd, rfl⟩⟩; refine ⟨_, rfl, ?_⟩))
  go_ret
  exact ⟨zq59_, zq61_⟩

/-! ### spec_l1Num: function 74 -/
def spec_l1Num.f (a0 : Int) : Option (Bool) := if a0 ≥ (-1000000) then (some (decide (a0 ≤ 1000000))) else (some false)
set_option maxHeartbeats 8000000 in
set_option maxRecDepth 100000 in
theorem spec_l1Num.calls (a0 : Int) (r : Bool) (w : World) (h : spec_l1Num.f a0 = some r) :
  Calls Try.prog 74 #[.int .i64 a0] w fun e w' => e = .returned (.bool r) ∧ Drawn0 w w' := by
 have H : (if a0 ≥ (-1000000) then (some (decide (a0 ≤ 1000000))) else (some false)) = some r := h; clear h; replace H := ifc_ H
 rcases H with ⟨c2b0, H⟩ | ⟨c2b0, H⟩
 ·change decide ((-1000000) ≤ a0) = true at c2b0; obtain rfl := Option.some.inj H
  go_enter Try.func74, Try.ntmps74
  go_wp2
  go_ret
  exact ⟨zq5a_, zq8d_⟩
 ·change decide ((-1000000) ≤ a0) = false at c2b0; obtain rfl := Option.some.inj H
  go_enter Try.func74, Try.ntmps74
  go_wp2
  go_ret
  exact ⟨zq5a_, zq8d_⟩

/-! ### spec_BoxOk: function 24 -/
def spec_BoxOk.l0 : Nat → List (S46) → Int → Option (Bool)
 | 0, _, _ => none
 | k + 1, x0, x3 => if x3 < (x0.length : Int) then (if 0 ≤ x3 then (if ((rd_T46 x0 x3).f0) < 0 then (some false) else (if ((rd_T46 x0 x3).f0) > 1000000 then (some false) else ((spec_l1Num.f ((rd_T46 x0 x3).f1)).bind fun t307 => (if t307 = true then (spec_BoxOk.l0 k x0 (wrap64 (x3 + 1))) else (some false))))) else (none)) else (some true)
def spec_BoxOk.f (k : Nat) (l0 : List (S46)) : Option (Bool) := if (l0.length : Int) = 4 then (spec_BoxOk.l0 k l0 0) else (some false)
theorem spec_BoxOk.mono_l : ∀ k, (∀ y0 y1, LeO (spec_BoxOk.l0 k y0 y1) (spec_BoxOk.l0 (k + 1) y0 y1))
 | 0 => fun _ _ r h => by simp [spec_BoxOk.l0] at h
 | k + 1 => by
  have H0 := spec_BoxOk.mono_l k
  ·intro y0 y1
   unfold spec_BoxOk.l0
   repeat' first
   | (with_reducible exact H0 _ _)
   | (with_reducible exact LeO.refl _)
   | (with_reducible exact LeO.none _)
   | (with_reducible refine LeO.ite ?_ ?_)
   | (with_reducible refine LeO.bind ?_ (fun _ => ?_))
   | exact H0 _ _
   | exact LeO.none _
   | refine LeO.ite ?_ ?_
   | refine LeO.bind ?_ (fun _ => ?_)
theorem spec_BoxOk.mono : ∀ a0 k, LeO (spec_BoxOk.f k a0) (spec_BoxOk.f (k + 1) a0) := by
 intro a0 k
 have H0 := spec_BoxOk.mono_l k
 unfold spec_BoxOk.f
 repeat' first
   | (with_reducible exact H0 _ _)
   | (with_reducible exact LeO.refl _)
   | (with_reducible exact LeO.none _)
   | (with_reducible refine LeO.ite ?_ ?_)
   | (with_reducible refine LeO.bind ?_ (fun _ => ?_))
   | exact H0 _ _
   | exact LeO.none _
   | refine LeO.ite ?_ ?_
   | refine LeO.bind ?_ (fun _ => ?_)
set_option maxHeartbeats 8000000 in
set_option maxRecDepth 100000 in
theorem spec_BoxOk.calls (k : Nat) (A0 : Option Addr) (c0 : Nat) (l0 : List (S46)) (r : Bool) (w : World) (Y0 : Kd.C k46 w A0 l0.length l0) (ac0 : l0.length ≤ c0) (h : spec_BoxOk.f k l0 = some r) :
  Calls Try.prog 24 #[.slice A0 l0.length c0] w fun e w' => e = .returned (.bool r) ∧ Drawn0 w w' := by
 have V0 := Aside0.mk Y0; have ae0 := Aside0.mk ac0; clear Y0 ac0; have H : (if (l0.length : Int) = 4 then (spec_BoxOk.l0 k l0 0) else (some false)) = some r := h; clear h; by_cases c2 : (l0.length : Int) = 4
 ·rw [if_pos c2] at H; have s0 : ((l0.length : Int) == 4) = true := beq_iff_eq.mpr c2; have s1 : ((l0.length : Int) != 4) = false := bne_eq_false_iff_eq.mpr c2; clear c2; have H' := Aside0.mk H; clear H
  go_enter Try.func24, Try.ntmps24
  go_wp2
  go_loopg [3] k (fun kq v3 w' => ∃ (a0 : Int), v3 = .int .i64 a0 ∧ Aside0 (spec_BoxOk.l0 kq l0 a0 = some r) ∧ Aside0 (kq ≤ k) ∧ Drawn0 w w')
  case atStart => exact ⟨(0), zq5a_, H', ⟨Nat.le_refl _⟩, zq8d_⟩
  case round =>
   clear H'
   try clear c2
   try clear s0
   try clear s1
   try clear p2
   obtain ⟨a0, rfl, HA, Z0, ⟨m1, rfl⟩⟩ := hrel
   cases gk with
   | zero => exact absurd HA.out (by simp [spec_BoxOk.l0])
   | succ k1 =>
    have H := HA.out; clear HA; simp only [spec_BoxOk.l0] at H; replace H := ifc_ H
    rcases H with ⟨c3b0, H⟩ | ⟨c3b0, H⟩
    ·replace H := ifd_ H; obtain ⟨s2, H⟩ := H; replace H := ifc_ H
     rcases H with ⟨c5b0, H⟩ | ⟨c5b0, H⟩
     ·obtain rfl := Option.some.inj H; have u0 : 0 ≤ (a0 : Int) := of_decide_eq_true zq55_; have t0 : a0 < (l0.length : Int) := of_decide_eq_true zq55_; obtain ⟨F0, Q0, q0, q1⟩ := at_T46 V0.out a0 u0 t0; cases Q0; replace u0 := eq_true u0; replace t0 := eq_true t0
      go_wp2
      go_ret
      exact ⟨zq5a_, zq8d_⟩
     ·replace H := ifc_ H
      rcases H with ⟨c6b0, H⟩ | ⟨c6b0, H⟩
      ·change decide (1000000 < ((rd_T46 l0 a0).f0)) = true at c6b0; obtain rfl := Option.some.inj H; have u0 : 0 ≤ (a0 : Int) := of_decide_eq_true zq55_; have t0 : a0 < (l0.length : Int) := of_decide_eq_true zq55_; obtain ⟨F0, Q0, q0, q1⟩ := at_T46 V0.out a0 u0 t0; cases Q0; replace u0 := eq_true u0; replace t0 := eq_true t0; have u1 : 0 ≤ (a0 : Int) := of_decide_eq_true zq55_; have t1 : a0 < (l0.length : Int) := of_decide_eq_true zq55_; obtain ⟨F1, Q1, q2, q3⟩ := at_T46 V0.out a0 u1 t1; obtain rfl : F0 = F1 := (by injection Q1); replace u1 := eq_true u1; replace t1 := eq_true t1
       go_wp2
       go_ret
       exact ⟨zq5a_, zq8d_⟩
      ·change decide (1000000 < ((rd_T46 l0 a0).f0)) = false at c6b0; replace H := bs_ H; obtain ⟨e0, A7, H⟩ := H; (try dsimp only at H); replace H := ifB_ H
       rcases H with ⟨rfl, H⟩ | ⟨rfl, H⟩
       ·have H' := Aside0.mk H; clear H; have u0 : 0 ≤ (a0 : Int) := of_decide_eq_true zq55_; have t0 : a0 < (l0.length : Int) := of_decide_eq_true zq55_; obtain ⟨F0, Q0, q0, q1⟩ := at_T46 V0.out a0 u0 t0; cases Q0; replace u0 := eq_true u0; replace t0 := eq_true t0; have u1 : 0 ≤ (a0 : Int) := of_decide_eq_true zq55_; have t1 : a0 < (l0.length : Int) := of_decide_eq_true zq55_; obtain ⟨F1, Q1, q2, q3⟩ := at_T46 V0.out a0 u1 t1; obtain rfl : F0 = F1 := (by injection Q1); replace u1 := eq_true u1; replace t1 := eq_true t1; have u2 : 0 ≤ (a0 : Int) := of_decide_eq_true zq55_; have t2 : a0 < (l0.length : Int) := of_decide_eq_true zq55_; obtain ⟨F2, Q2, q4, q5⟩ := at_T46 V0.out a0 u2 t2; obtain rfl : F0 = F2 := (by injection Q2); replace u2 := eq_true u2; replace t2 := eq_true t2
        go_wp2_with (first | (go_at_call 74; (with_reducible refine (spec_l1Num.calls ((rd_T46 l0 a0).f1) true _ A7.out).mono ?_); rintro e w' ⟨rfl, ⟨nd, rfl⟩⟩; (try clear A7)))
        go_roundg k1
        case measure => have := Z0.out; omega
        case rel => exact ⟨(wrap64 (a0 + 1)), zq5a_, H', ⟨by have := Z0.out; omega⟩, zq8d_⟩
       ·obtain rfl := Option.some.inj H; have u0 : 0 ≤ (a0 : Int) := of_decide_eq_true zq55_; have t0 : a0 < (l0.length : Int) := of_decide_eq_true zq55_; obtain ⟨F0, Q0, q0, q1⟩ := at_T46 V0.out a0 u0 t0; cases Q0; replace u0 := eq_true u0; replace t0 := eq_true t0; have u1 : 0 ≤ (a0 : Int) := of_decide_eq_true zq55_; have t1 : a0 < (l0.length : Int) := of_decide_eq_true zq55_; obtain ⟨F1, Q1, q2, q3⟩ := at_T46 V0.out a0 u1 t1; obtain rfl : F0 = F1 := (by injection Q1); replace u1 := eq_true u1; replace t1 := eq_true t1; have u2 : 0 ≤ (a0 : Int) := of_decide_eq_true zq55_; have t2 : a0 < (l0.length : Int) := of_decide_eq_true zq55_; obtain ⟨F2, Q2, q4, q5⟩ := at_T46 V0.out a0 u2 t2; obtain rfl : F0 = F2 := (by injection Q2); replace u2 := eq_true u2; replace t2 := eq_true t2
        go_wp2_with (first | (go_at_call 74; (with_reducible refine (spec_l1Num.calls ((rd_T46 l0 a0).f1) false _ A7.out).mono ?_); rintro e w' ⟨rfl, ⟨nd, rfl⟩⟩; (try clear A7)))
        go_ret
        exact ⟨zq5a_, zq8d_⟩
    ·obtain rfl := Option.some.inj H
     go_wp2
     go_ret
     exact ⟨zq5a_, zq8d_⟩
 ·rw [if_neg c2] at H; have s0 : ((l0.length : Int) == 4) = false := beq_eq_false_iff_ne.mpr c2; have s1 : ((l0.length : Int) != 4) = true := bne_iff_ne.mpr c2; obtain rfl := Option.some.inj H
  go_enter Try.func24, Try.ntmps24
  go_wp2
  go_ret
  exact ⟨zq5a_, zq8d_⟩

/-! ### spec_l2Box: function 75 -/
def spec_l2Box.f (a0 : Int) : Option (Bool) := if a0 ≥ 0 then (some (decide (a0 < 4))) else (some false)
set_option maxHeartbeats 8000000 in
set_option maxRecDepth 100000 in
theorem spec_l2Box.calls (a0 : Int) (r : Bool) (w : World) (h : spec_l2Box.f a0 = some r) :
  Calls Try.prog 75 #[.int .i64 a0] w fun e w' => e = .returned (.bool r) ∧ Drawn0 w w' := by
 have H : (if a0 ≥ 0 then (some (decide (a0 < 4))) else (some false)) = some r := h; clear h; replace H := ifc_ H
 rcases H with ⟨c2b0, H⟩ | ⟨c2b0, H⟩
 ·change decide (0 ≤ a0) = true at c2b0; obtain rfl := Option.some.inj H
  go_enter Try.func75, Try.ntmps75
  go_wp2
  go_ret
  exact ⟨zq5a_, zq8d_⟩
 ·change decide (0 ≤ a0) = false at c2b0; obtain rfl := Option.some.inj H
  go_enter Try.func75, Try.ntmps75
  go_wp2
  go_ret
  exact ⟨zq5a_, zq8d_⟩

/-! ### spec_l2Reg: function 103 -/
def spec_l2Reg.f (a0 : Int) : Option (Bool) := if a0 ≥ 0 then (some (decide (a0 < 4))) else (some false)
set_option maxHeartbeats 8000000 in
set_option maxRecDepth 100000 in
theorem spec_l2Reg.calls (a0 : Int) (r : Bool) (w : World) (h : spec_l2Reg.f a0 = some r) :
  Calls Try.prog 103 #[.int .i64 a0] w fun e w' => e = .returned (.bool r) ∧ Drawn0 w w' := by
 have H : (if a0 ≥ 0 then (some (decide (a0 < 4))) else (some false)) = some r := h; clear h; replace H := ifc_ H
 rcases H with ⟨c2b0, H⟩ | ⟨c2b0, H⟩
 ·change decide (0 ≤ a0) = true at c2b0; obtain rfl := Option.some.inj H
  go_enter Try.func103, Try.ntmps103
  go_wp2
  go_ret
  exact ⟨zq5a_, zq8d_⟩
 ·change decide (0 ≤ a0) = false at c2b0; obtain rfl := Option.some.inj H
  go_enter Try.func103, Try.ntmps103
  go_wp2
  go_ret
  exact ⟨zq5a_, zq8d_⟩

end Go.Proofs.Ytgdafcakefnpdaa.PFnExec

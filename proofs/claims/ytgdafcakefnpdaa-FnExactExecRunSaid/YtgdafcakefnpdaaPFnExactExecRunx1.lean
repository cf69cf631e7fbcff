-- Laid by this session's program out of the translation (gen.sh).
import Derived.Test.YtgdafcakefnpdaaPFnExactExecRunx0
namespace Go.Proofs.Ytgdafcakefnpdaa.PFnExactExecRun
open Go.RowKit Go.Proofs.YtgdafcakefnpdaaW.PrintWords Go.Proofs.YtgdafcakefnpdaaW.PrintLast Go.Proofs.YtgdafcakefnpdaaW.PrintMore
attribute [local go_sem] max2_int min2_int max_two min_two max_three min_three max_four min_four   -- for this text's walks alone
set_option linter.unusedVariables false
set_option linter.unusedSimpArgs false

/-! ### impl_in: function 64 -/
def impl_in.f (a0 : Int) (a1 : Int) (a2 : Int) : Option (Bool) := if a0 ≥ a1 then (some (decide (a0 ≤ a2))) else (some false)
set_option maxHeartbeats 8000000 in
set_option maxRecDepth 100000 in
theorem impl_in.calls (a0 : Int) (a1 : Int) (a2 : Int) (r : Bool) (w : World) (h : impl_in.f a0 a1 a2 = some r) :
  Calls Try.prog 64 #[.int .i64 a0, .int .i64 a1, .int .i64 a2] w fun e w' => e = .returned (.bool r) ∧ Drawn0 w w' := by
 have H : (if a0 ≥ a1 then (some (decide (a0 ≤ a2))) else (some false)) = some r := h
 clear h
 by_cases c4 : a0 ≥ a1
 ·rw [if_pos c4] at H
  have c4b0 : decide (a1 ≤ a0) = true := decide_eq_true c4
  clear c4
  obtain rfl := Option.some.inj H
  go_enter Try.func64, Try.ntmps64
  go_wp2
  go_ret
  exact ⟨zq76_, zqbb_⟩
 ·rw [if_neg c4] at H
  have c4b0 : decide (a1 ≤ a0) = false := decide_eq_false c4
  clear c4
  obtain rfl := Option.some.inj H
  go_enter Try.func64, Try.ntmps64
  go_wp2
  go_ret
  exact ⟨zq76_, zqbb_⟩

/-! ### impl_BoxOk: function 25 -/
def impl_BoxOk.l0 : Nat → List (S46) → List (S46) → Int → Int → Option (Bool)
 | 0, _, _, _, _ => none
 | k + 1, x0, x5, x6, x7 => if x7 < x6 then (if 0 ≤ x7 then (if x7 < (x5.length : Int) then ((impl_in.f ((rd_T46 x5 x7).f0) 0 1000000).bind fun t103 => (if t103 = true then ((impl_in.f ((rd_T46 x5 x7).f1) (-1000000) 1000000).bind fun t104 => (if t104 = true then (impl_BoxOk.l0 k x0 x5 x6 (wrap64 (x7 + 1))) else (some false))) else (some false))) else (none)) else (none)) else (some ((x0.length : Int) == 4))
def impl_BoxOk.f (k : Nat) (l0 : List (S46)) : Option (Bool) := impl_BoxOk.l0 k l0 l0 (l0.length : Int) 0
theorem impl_BoxOk.mono_l : ∀ k, (∀ y0 y1 y2 y3, LeO (impl_BoxOk.l0 k y0 y1 y2 y3) (impl_BoxOk.l0 (k + 1) y0 y1 y2 y3))
 | 0 => fun _ _ _ _ r h => by simp [impl_BoxOk.l0] at h
 | k + 1 => by
  have ih0 := impl_BoxOk.mono_l k
  ·intro y0 y1 y2 y3
   unfold impl_BoxOk.l0
   repeat' first
   | (with_reducible exact ih0 _ _ _ _)
   | (with_reducible exact LeO.refl _)
   | (with_reducible exact LeO.none _)
   | (with_reducible refine LeO.ite ?_ ?_)
   | (with_reducible refine LeO.bind ?_ (fun _ => ?_))
   | exact ih0 _ _ _ _
   | exact LeO.none _
   | refine LeO.ite ?_ ?_
   | refine LeO.bind ?_ (fun _ => ?_)
theorem impl_BoxOk.mono : ∀ a0 k, LeO (impl_BoxOk.f k a0) (impl_BoxOk.f (k + 1) a0) := by
 intro a0 k
 have ih0 := impl_BoxOk.mono_l k
 unfold impl_BoxOk.f
 repeat' first
   | (with_reducible exact ih0 _ _ _ _)
   | (with_reducible exact LeO.refl _)
   | (with_reducible exact LeO.none _)
   | (with_reducible refine LeO.ite ?_ ?_)
   | (with_reducible refine LeO.bind ?_ (fun _ => ?_))
   | exact ih0 _ _ _ _
   | exact LeO.none _
   | refine LeO.ite ?_ ?_
   | refine LeO.bind ?_ (fun _ => ?_)
set_option maxHeartbeats 8000000 in
set_option maxRecDepth 100000 in
theorem impl_BoxOk.calls (k : Nat) (A0 : Option Addr) (c0 : Nat) (l0 : List (S46)) (r : Bool) (w : World) (hr0 : Kd.C k46 w A0 l0.length l0) (hc0 : l0.length ≤ c0) (h : impl_BoxOk.f k l0 = some r) :
  Calls Try.prog 25 #[.slice A0 l0.length c0] w fun e w' => e = .returned (.bool r) ∧ Below w.heap.size w w' := by
 have hu46 := Try.underlying46
 have HR0 := Aside0.mk hr0
 have HC0 := Aside0.mk hc0
 clear hr0 hc0
 have HB := Aside0.mk (Below.refl w.heap.size w)
 have H : (impl_BoxOk.l0 k l0 l0 (l0.length : Int) 0) = some r := h
 clear h
 have H' := Aside0.mk H
 clear H
 go_enter Try.func25, Try.ntmps25
 go_wp2
 go_loopg [7] k (fun kq v7 w' => ∃ (x7_1 : Int), v7 = .int .i64 x7_1 ∧ Aside0 (impl_BoxOk.l0 kq l0 l0 (l0.length : Int) x7_1 = some r) ∧ Aside0 (kq ≤ k) ∧ Aside0 (Below w.heap.size w w'))
 case atStart => exact ⟨(0), zq76_, H', ⟨Nat.le_refl _⟩, ⟨zqa3_⟩⟩
 case round =>
  clear H'
  obtain ⟨x7_1, rfl, HA, HK1, HB⟩ := hrel
  cases gk with
  | zero => exact absurd HA.out (by simp [impl_BoxOk.l0])
  | succ k1 =>
   have H := HA.out
   clear HA
   simp only [impl_BoxOk.l0] at H
   by_cases c2 : x7_1 < (l0.length : Int)
   ·rw [if_pos c2] at H
    have c2b0 : decide (x7_1 < (l0.length : Int)) = true := decide_eq_true c2
    clear c2
    by_cases c3 : 0 ≤ x7_1
    ·rw [if_pos c3] at H
     have c3b0 : decide (0 ≤ x7_1) = true := decide_eq_true c3
     clear c3
     by_cases c4 : x7_1 < (l0.length : Int)
     ·rw [if_pos c4] at H
      have c4b0 : decide (x7_1 < (l0.length : Int)) = true := decide_eq_true c4
      clear c4
      replace H := Option.bind_eq_some_iff.mp H
      obtain ⟨t103, A50, H⟩ := H
      (try dsimp only at H)
      have A5 := Aside0.mk A50
      clear A50
      by_cases c6 : t103 = true
      ·subst c6
       rw [if_pos rfl] at H
       replace H := Option.bind_eq_some_iff.mp H
       obtain ⟨t104, A70, H⟩ := H
       (try dsimp only at H)
       have A7 := Aside0.mk A70
       clear A70
       by_cases c8 : t104 = true
       ·subst c8
        rw [if_pos rfl] at H
        have H' := Aside0.mk H
        clear H
        have p101 : 0 ≤ (x7_1 : Int) := of_decide_eq_true zq71_
        have q101 : x7_1 < (l0.length : Int) := of_decide_eq_true zq71_
        obtain ⟨ad101, e101, hx101_0, hx101_1⟩ := at_T46 HR0.out x7_1 p101 q101
        cases e101
        replace hx101_0 := (HB.out.cell (World.block_lt_of_cell? w _ hx101_0)).trans hx101_0
        replace hx101_1 := (HB.out.cell (World.block_lt_of_cell? w _ hx101_1)).trans hx101_1
        replace p101 := eq_true p101
        replace q101 := eq_true q101
        go_wp2_with (first | ((with_reducible refine gate_dst (N := 4) rfl ?_); refine bxe_ (N := 4) (cs := #[.int .i64 0, .int .i64 0]) (t := 46) ?_; intro gb102 hg w9 hbox hb; have n_ := A4_ (below_step zqa3_ hb) (hbox) ((zqd6_ : w.heap.size ≤ gb102)) ((zqd6_ : w.heap.size ≤ gb102)); clear HB; obtain ⟨HB, BK102, GW102, GE102⟩ := n_; clear hb hbox hg; have hcz10_0 := bc0_ BK102.out; have hcz10_1 := bc1_ BK102.out; have hfz10_0 := blk_frozen BK102.out 0; have hfz10_1 := blk_frozen BK102.out 1) | ((with_reducible refine gate_callee (f := 64) rfl ?_); refine goesL_ (some 13) rfl rfl Try.func64 (by kernel_rfl) rfl #[.int .i64 ((rd_T46 l0 x7_1).f0), .int .i64 0, .int .i64 1000000] rfl zq1_ ?_; (with_reducible refine (impl_in.calls ((rd_T46 l0 x7_1).f0) 0 1000000 true _ A5.out).mono ?_); rintro e w' ⟨rfl, ⟨nd, rfl⟩⟩; refine ⟨_, rfl, ?_⟩) | (go_at_call 64; (with_reducible refine (impl_in.calls ((rd_T46 l0 x7_1).f1) (-1000000) 1000000 true _ A7.out).mono ?_); rintro e w' ⟨rfl, ⟨nd, rfl⟩⟩; (try clear A7)))
        go_roundg k1
        case measure => have := HK1.out; omega
        case rel => exact ⟨(wrap64 (x7_1 + 1)), zq76_, H', ⟨by have := HK1.out; omega⟩, ⟨zq79_⟩⟩
       ·replace c8 := Bool.eq_false_iff.mpr c8
        subst c8
        rw [if_neg (show ¬ (false = true) by decide)] at H
        obtain rfl := Option.some.inj H
        have p101 : 0 ≤ (x7_1 : Int) := of_decide_eq_true zq71_
        have q101 : x7_1 < (l0.length : Int) := of_decide_eq_true zq71_
        obtain ⟨ad101, e101, hx101_0, hx101_1⟩ := at_T46 HR0.out x7_1 p101 q101
        cases e101
        replace hx101_0 := (HB.out.cell (World.block_lt_of_cell? w _ hx101_0)).trans hx101_0
        replace hx101_1 := (HB.out.cell (World.block_lt_of_cell? w _ hx101_1)).trans hx101_1
        replace p101 := eq_true p101
        replace q101 := eq_true q101
        go_wp2_with (first | ((with_reducible refine gate_dst (N := 4) rfl ?_); refine bxe_ (N := 4) (cs := #[.int .i64 0, .int .i64 0]) (t := 46) ?_; intro gb102 hg w11 hbox hb; have n_ := A4_ (below_step zqa3_ hb) (hbox) ((zqd6_ : w.heap.size ≤ gb102)) ((zqd6_ : w.heap.size ≤ gb102)); clear HB; obtain ⟨HB, BK102, GW102, GE102⟩ := n_; clear hb hbox hg; have hcz12_0 := bc0_ BK102.out; have hcz12_1 := bc1_ BK102.out; have hfz12_0 := blk_frozen BK102.out 0; have hfz12_1 := blk_frozen BK102.out 1) | ((with_reducible refine gate_callee (f := 64) rfl ?_); refine goesL_ (some 13) rfl rfl Try.func64 (by kernel_rfl) rfl #[.int .i64 ((rd_T46 l0 x7_1).f0), .int .i64 0, .int .i64 1000000] rfl zq1_ ?_; (with_reducible refine (impl_in.calls ((rd_T46 l0 x7_1).f0) 0 1000000 true _ A5.out).mono ?_); rintro e w' ⟨rfl, ⟨nd, rfl⟩⟩; refine ⟨_, rfl, ?_⟩) | (go_at_call 64; (with_reducible refine (impl_in.calls ((rd_T46 l0 x7_1).f1) (-1000000) 1000000 false _ A7.out).mono ?_); rintro e w' ⟨rfl, ⟨nd, rfl⟩⟩; (try clear A7)))
        go_ret
        exact ⟨zq75_, zq79_⟩
      ·replace c6 := Bool.eq_false_iff.mpr c6
       subst c6
       rw [if_neg (show ¬ (false = true) by decide)] at H
       obtain rfl := Option.some.inj H
       have p101 : 0 ≤ (x7_1 : Int) := of_decide_eq_true zq71_
       have q101 : x7_1 < (l0.length : Int) := of_decide_eq_true zq71_
       obtain ⟨ad101, e101, hx101_0, hx101_1⟩ := at_T46 HR0.out x7_1 p101 q101
       cases e101
       replace hx101_0 := (HB.out.cell (World.block_lt_of_cell? w _ hx101_0)).trans hx101_0
       replace hx101_1 := (HB.out.cell (World.block_lt_of_cell? w _ hx101_1)).trans hx101_1
       replace p101 := eq_true p101
       replace q101 := eq_true q101
       go_wp2_with (first | ((with_reducible refine gate_dst (N := 4) rfl ?_); refine bxe_ (N := 4) (cs := #[.int .i64 0, .int .i64 0]) (t := 46) ?_; intro gb102 hg w13 hbox hb; have n_ := A4_ (below_step zqa3_ hb) (hbox) ((zqd6_ : w.heap.size ≤ gb102)) ((zqd6_ : w.heap.size ≤ gb102)); clear HB; obtain ⟨HB, BK102, GW102, GE102⟩ := n_; clear hb hbox hg; have hcz14_0 := bc0_ BK102.out; have hcz14_1 := bc1_ BK102.out; have hfz14_0 := blk_frozen BK102.out 0; have hfz14_1 := blk_frozen BK102.out 1) | ((with_reducible refine gate_callee (f := 64) rfl ?_); refine goesL_ (some 13) rfl rfl Try.func64 (by kernel_rfl) rfl #[.int .i64 ((rd_T46 l0 x7_1).f0), .int .i64 0, .int .i64 1000000] rfl zq1_ ?_; (with_reducible refine (impl_in.calls ((rd_T46 l0 x7_1).f0) 0 1000000 false _ A5.out).mono ?_); rintro e w' ⟨rfl, ⟨nd, rfl⟩⟩; refine ⟨_, rfl, ?_⟩))
       go_ret
       exact ⟨zq75_, zq79_⟩
     ·rw [if_neg c4] at H
      exact absurd H (by simp)
    ·rw [if_neg c3] at H
     exact absurd H (by simp)
   ·rw [if_neg c2] at H
    have c2b0 : decide (x7_1 < (l0.length : Int)) = false := decide_eq_false c2
    clear c2
    obtain rfl := Option.some.inj H
    go_wp2
    go_ret
    exact ⟨zq75_, zqa3_⟩

/-! ### impl_insOk_1: function 108 -/
def impl_insOk_1.f (a0 : Int) : Option (Bool) := (impl_in.f a0 0 3).bind fun t105 => (some t105)
set_option maxHeartbeats 8000000 in
set_option maxRecDepth 100000 in
theorem impl_insOk_1.calls (a0 : Int) (r : Bool) (w : World) (h : impl_insOk_1.f a0 = some r) :
  Calls Try.prog 108 #[.int .i64 a0] w fun e w' => e = .returned (.bool r) ∧ Drawn0 w w' := by
 have H : ((impl_in.f a0 0 3).bind fun t105 => (some t105)) = some r := h
 clear h
 replace H := Option.bind_eq_some_iff.mp H
 obtain ⟨t105, A20, H⟩ := H
 (try dsimp only at H)
 have A2 := Aside0.mk A20
 clear A20
 obtain rfl := Option.some.inj H
 go_enter Try.func108, Try.ntmps108
 go_wp2_with (first | ((with_reducible refine gate_callee (f := 64) rfl ?_); refine goesL_ (some 4) rfl rfl Try.func64 (by kernel_rfl) rfl #[.int .i64 a0, .int .i64 0, .int .i64 3] rfl zq1_ ?_; (with_reducible refine (impl_in.calls a0 0 3 t105 _ A2.out).mono ?_); rintro e w' ⟨rfl, ⟨nd, rfl⟩⟩; refine ⟨_, rfl, ?_⟩))
 go_ret
 exact ⟨zq76_, zqbb_⟩

/-! ### impl_insOk_2: function 109 -/
def impl_insOk_2.f (a0 : Int) : Option (Bool) := (impl_in.f a0 0 3).bind fun t106 => (some t106)
set_option maxHeartbeats 8000000 in
set_option maxRecDepth 100000 in
theorem impl_insOk_2.calls (a0 : Int) (r : Bool) (w : World) (h : impl_insOk_2.f a0 = some r) :
  Calls Try.prog 109 #[.int .i64 a0] w fun e w' => e = .returned (.bool r) ∧ Drawn0 w w' := by
 have H : ((impl_in.f a0 0 3).bind fun t106 => (some t106)) = some r := h
 clear h
 replace H := Option.bind_eq_some_iff.mp H
 obtain ⟨t106, A20, H⟩ := H
 (try dsimp only at H)
 have A2 := Aside0.mk A20
 clear A20
 obtain rfl := Option.some.inj H
 go_enter Try.func109, Try.ntmps109
 go_wp2_with (first | ((with_reducible refine gate_callee (f := 64) rfl ?_); refine goesL_ (some 4) rfl rfl Try.func64 (by kernel_rfl) rfl #[.int .i64 a0, .int .i64 0, .int .i64 3] rfl zq1_ ?_; (with_reducible refine (impl_in.calls a0 0 3 t106 _ A2.out).mono ?_); rintro e w' ⟨rfl, ⟨nd, rfl⟩⟩; refine ⟨_, rfl, ?_⟩))
 go_ret
 exact ⟨zq76_, zqbb_⟩

/-! ### impl_insOk: function 99 -/
def impl_insOk.j0 : Nat → Int → Bool → Int → Int → Int → Int → Option (Bool)
 | 0, _, _, _, _, _, _ => none
 | k + 1, x6, x57, x108000, x108001, x108002, x108003 => if x57 = true then ((impl_insOk_1.f x108001).bind fun t114 => (if t114 = true then ((impl_insOk_1.f x108002).bind fun t115 => (if t115 = true then (some (x108003 == 0)) else (some false))) else (some false))) else (if x6 = 6 then ((impl_insOk_1.f x108001).bind fun t116 => (if t116 = true then ((impl_insOk_1.f x108002).bind fun t117 => (if t117 = true then ((impl_in.f x108003 1 10).bind fun t118 => (some t118)) else (some false))) else (some false))) else (if x6 = 7 then (if x108001 = 0 then (if x108002 = 0 then (some (x108003 == 0)) else (some false)) else (some false)) else (some false)))
def impl_insOk.f (k : Nat) (a0_0 : Int) (a0_1 : Int) (a0_2 : Int) (a0_3 : Int) : Option (Bool) := if a0_0 = 1 then ((impl_insOk_1.f a0_1).bind fun t108 => (if t108 = true then ((impl_insOk_2.f a0_2).bind fun t109 => (if t109 = true then (some (a0_3 == 0)) else (some false))) else (some false))) else (if a0_0 = 2 then ((impl_insOk_2.f a0_1).bind fun t110 => (if t110 = true then ((impl_insOk_1.f a0_2).bind fun t111 => (if t111 = true then (some (a0_3 == 0)) else (some false))) else (some false))) else (if a0_0 = 3 then ((impl_insOk_1.f a0_1).bind fun t112 => (if t112 = true then (if a0_2 = 0 then ((impl_in.f a0_3 (-1000000) 1000000).bind fun t113 => (some t113)) else (some false)) else (some false))) else (if a0_0 = 4 then (impl_insOk.j0 k a0_0 (a0_0 == 4) a0_0 a0_1 a0_2 a0_3) else (impl_insOk.j0 k a0_0 (a0_0 == 5) a0_0 a0_1 a0_2 a0_3))))
theorem impl_insOk.mono_l : ∀ k, (∀ y0 y1 y2 y3 y4 y5, LeO (impl_insOk.j0 k y0 y1 y2 y3 y4 y5) (impl_insOk.j0 (k + 1) y0 y1 y2 y3 y4 y5))
 | 0 => fun _ _ _ _ _ _ r h => by simp [impl_insOk.j0] at h
 | k + 1 => by
  have ih0 := impl_insOk.mono_l k
  ·intro y0 y1 y2 y3 y4 y5
   unfold impl_insOk.j0
   repeat' first
   | (with_reducible exact ih0 _ _ _ _ _ _)
   | (with_reducible exact LeO.refl _)
   | (with_reducible exact LeO.none _)
   | (with_reducible refine LeO.ite ?_ ?_)
   | (with_reducible refine LeO.bind ?_ (fun _ => ?_))
   | exact ih0 _ _ _ _ _ _
   | exact LeO.none _
   | refine LeO.ite ?_ ?_
   | refine LeO.bind ?_ (fun _ => ?_)
theorem impl_insOk.mono : ∀ a0 a1 a2 a3 k, LeO (impl_insOk.f k a0 a1 a2 a3) (impl_insOk.f (k + 1) a0 a1 a2 a3) := by
 intro a0 a1 a2 a3 k
 have ih0 := impl_insOk.mono_l k
 unfold impl_insOk.f
 repeat' first
   | (with_reducible exact ih0 _ _ _ _ _ _)
   | (with_reducible exact LeO.refl _)
   | (with_reducible exact LeO.none _)
   | (with_reducible refine LeO.ite ?_ ?_)
   | (with_reducible refine LeO.bind ?_ (fun _ => ?_))
   | exact ih0 _ _ _ _ _ _
   | exact LeO.none _
   | refine LeO.ite ?_ ?_
   | refine LeO.bind ?_ (fun _ => ?_)
set_option maxHeartbeats 8000000 in
set_option maxRecDepth 100000 in
theorem impl_insOk.calls (k : Nat) (a0_0 : Int) (a0_1 : Int) (a0_2 : Int) (a0_3 : Int) (r : Bool) (w : World) (h : impl_insOk.f k a0_0 a0_1 a0_2 a0_3 = some r) :
  Calls Try.prog 99 #[.agg #[.int .i64 a0_0, .int .i64 a0_1, .int .i64 a0_2, .int .i64 a0_3]] w fun e w' => e = .returned (.bool r) ∧ Below w.heap.size w w' := by
 have hu34 := Try.underlying34
 have HB := Aside0.mk (Below.refl w.heap.size w)
 have H : (if a0_0 = 1 then ((impl_insOk_1.f a0_1).bind fun t108 => (if t108 = true then ((impl_insOk_2.f a0_2).bind fun t109 => (if t109 = true then (some (a0_3 == 0)) else (some false))) else (some false))) else (if a0_0 = 2 then ((impl_insOk_2.f a0_1).bind fun t110 => (if t110 = true then ((impl_insOk_1.f a0_2).bind fun t111 => (if t111 = true then (some (a0_3 == 0)) else (some false))) else (some false))) else (if a0_0 = 3 then ((impl_insOk_1.f a0_1).bind fun t112 => (if t112 = true then (if a0_2 = 0 then ((impl_in.f a0_3 (-1000000) 1000000).bind fun t113 => (some t113)) else (some false)) else (some false))) else (if a0_0 = 4 then (impl_insOk.j0 k a0_0 (a0_0 == 4) a0_0 a0_1 a0_2 a0_3) else (impl_insOk.j0 k a0_0 (a0_0 == 5) a0_0 a0_1 a0_2 a0_3))))) = some r := h
 clear h
 by_cases c2 : a0_0 = 1
 ·rw [if_pos c2] at H
  have c2b0 : (a0_0 == 1) = true := beq_iff_eq.mpr c2
  have c2b1 : (a0_0 != 1) = false := bne_eq_false_iff_eq.mpr c2
  clear c2
  replace H := Option.bind_eq_some_iff.mp H
  obtain ⟨t108, A30, H⟩ := H
  (try dsimp only at H)
  have A3 := Aside0.mk A30
  clear A30
  by_cases c4 : t108 = true
  ·subst c4
   rw [if_pos rfl] at H
   replace H := Option.bind_eq_some_iff.mp H
   obtain ⟨t109, A50, H⟩ := H
   (try dsimp only at H)
   have A5 := Aside0.mk A50
   clear A50
   by_cases c6 : t109 = true
   ·subst c6
    rw [if_pos rfl] at H
    obtain rfl := Option.some.inj H
    go_enter Try.func99, Try.ntmps99
    go_wp2_with (first | ((with_reducible refine gate_dst (N := 1) rfl ?_); refine bxe_ (N := 1) (cs := #[.int .i64 a0_0, .int .i64 a0_1, .int .i64 a0_2, .int .i64 a0_3]) (t := 34) ?_; intro gb107 hg w7 hbox hb; have n_ := A4_ (below_step zqa3_ hb) (hbox) ((zqd6_ : w.heap.size ≤ gb107)) ((zqd6_ : w.heap.size ≤ gb107)); clear HB; obtain ⟨HB, BK107, GW107, GE107⟩ := n_; clear hb hbox hg; have hcz8_0 := bc0_ BK107.out; have hcz8_1 := bc1_ BK107.out; have hcz8_2 := bc2_ BK107.out; have hcz8_3 := bc3_ BK107.out; have hfz8_0 := blk_frozen BK107.out 0; have hfz8_1 := blk_frozen BK107.out 1; have hfz8_2 := blk_frozen BK107.out 2; have hfz8_3 := blk_frozen BK107.out 3) | (go_at_call 108; (with_reducible refine (impl_insOk_1.calls a0_1 true _ A3.out).mono ?_); rintro e w' ⟨rfl, ⟨nd, rfl⟩⟩; (try clear A3)) | (go_at_call 109; (with_reducible refine (impl_insOk_2.calls a0_2 true _ A5.out).mono ?_); rintro e w' ⟨rfl, ⟨nd, rfl⟩⟩; (try clear A5)))
    go_ret
    exact ⟨zq75_, zq7a_⟩
   ·replace c6 := Bool.eq_false_iff.mpr c6
    subst c6
    rw [if_neg (show ¬ (false = true) by decide)] at H
    obtain rfl := Option.some.inj H
    go_enter Try.func99, Try.ntmps99
    go_wp2_with (first | ((with_reducible refine gate_dst (N := 1) rfl ?_); refine bxe_ (N := 1) (cs := #[.int .i64 a0_0, .int .i64 a0_1, .int .i64 a0_2, .int .i64 a0_3]) (t := 34) ?_; intro gb107 hg w9 hbox hb; have n_ := A4_ (below_step zqa3_ hb) (hbox) ((zqd6_ : w.heap.size ≤ gb107)) ((zqd6_ : w.heap.size ≤ gb107)); clear HB; obtain ⟨HB, BK107, GW107, GE107⟩ := n_; clear hb hbox hg; have hcz10_0 := bc0_ BK107.out; have hcz10_1 := bc1_ BK107.out; have hcz10_2 := bc2_ BK107.out; have hcz10_3 := bc3_ BK107.out; have hfz10_0 := blk_frozen BK107.out 0; have hfz10_1 := blk_frozen BK107.out 1; have hfz10_2 := blk_frozen BK107.out 2; have hfz10_3 := blk_frozen BK107.out 3) | (go_at_call 108; (with_reducible refine (impl_insOk_1.calls a0_1 true _ A3.out).mono ?_); rintro e w' ⟨rfl, ⟨nd, rfl⟩⟩; (try clear A3)) | (go_at_call 109; (with_reducible refine (impl_insOk_2.calls a0_2 false _ A5.out).mono ?_); rintro e w' ⟨rfl, ⟨nd, rfl⟩⟩; (try clear A5)))
    go_ret
    exact ⟨zq75_, zq7a_⟩
  ·replace c4 := Bool.eq_false_iff.mpr c4
   subst c4
   rw [if_neg (show ¬ (false = true) by decide)] at H
   obtain rfl := Option.some.inj H
   go_enter Try.func99, Try.ntmps99
   go_wp2_with (first | ((with_reducible refine gate_dst (N := 1) rfl ?_); refine bxe_ (N := 1) (cs := #[.int .i64 a0_0, .int .i64 a0_1, .int .i64 a0_2, .int .i64 a0_3]) (t := 34) ?_; intro gb107 hg w11 hbox hb; have n_ := A4_ (below_step zqa3_ hb) (hbox) ((zqd6_ : w.heap.size ≤ gb107)) ((zqd6_ : w.heap.size ≤ gb107)); clear HB; obtain ⟨HB, BK107, GW107, GE107⟩ := n_; clear hb hbox hg; have hcz12_0 := bc0_ BK107.out; have hcz12_1 := bc1_ BK107.out; have hcz12_2 := bc2_ BK107.out; have hcz12_3 := bc3_ BK107.out; have hfz12_0 := blk_frozen BK107.out 0; have hfz12_1 := blk_frozen BK107.out 1; have hfz12_2 := blk_frozen BK107.out 2; have hfz12_3 := blk_frozen BK107.out 3) | (go_at_call 108; (with_reducible refine (impl_insOk_1.calls a0_1 false _ A3.out).mono ?_); rintro e w' ⟨rfl, ⟨nd, rfl⟩⟩; (try clear A3)))
   go_ret
   exact ⟨zq75_, zq7a_⟩
 ·rw [if_neg c2] at H
  have c2b0 : (a0_0 == 1) = false := beq_eq_false_iff_ne.mpr c2
  have c2b1 : (a0_0 != 1) = true := bne_iff_ne.mpr c2
  by_cases c13 : a0_0 = 2
  ·rw [if_pos c13] at H
   have c13b0 : (a0_0 == 2) = true := beq_iff_eq.mpr c13
   have c13b1 : (a0_0 != 2) = false := bne_eq_false_iff_eq.mpr c13
   clear c13
   replace H := Option.bind_eq_some_iff.mp H
   obtain ⟨t110, A140, H⟩ := H
   (try dsimp only at H)
   have A14 := Aside0.mk A140
   clear A140
   by_cases c15 : t110 = true
   ·subst c15
    rw [if_pos rfl] at H
    replace H := Option.bind_eq_some_iff.mp H
    obtain ⟨t111, A160, H⟩ := H
    (try dsimp only at H)
    have A16 := Aside0.mk A160
    clear A160
    by_cases c17 : t111 = true
    ·subst c17
     rw [if_pos rfl] at H
     obtain rfl := Option.some.inj H
     go_enter Try.func99, Try.ntmps99
     go_wp2_with (first | ((with_reducible refine gate_dst (N := 1) rfl ?_); refine bxe_ (N := 1) (cs := #[.int .i64 a0_0, .int .i64 a0_1, .int .i64 a0_2, .int .i64 a0_3]) (t := 34) ?_; intro gb107 hg w18 hbox hb; have n_ := A4_ (below_step zqa3_ hb) (hbox) ((zqd6_ : w.heap.size ≤ gb107)) ((zqd6_ : w.heap.size ≤ gb107)); clear HB; obtain ⟨HB, BK107, GW107, GE107⟩ := n_; clear hb hbox hg; have hcz19_0 := bc0_ BK107.out; have hcz19_1 := bc1_ BK107.out; have hcz19_2 := bc2_ BK107.out; have hcz19_3 := bc3_ BK107.out; have hfz19_0 := blk_frozen BK107.out 0; have hfz19_1 := blk_frozen BK107.out 1; have hfz19_2 := blk_frozen BK107.out 2; have hfz19_3 := blk_frozen BK107.out 3) | (go_at_call 109; (with_reducible refine (impl_insOk_2.calls a0_1 true _ A14.out).mono ?_); rintro e w' ⟨rfl, ⟨nd, rfl⟩⟩; (try clear A14)) | (go_at_call 108; (with_reducible refine (impl_insOk_1.calls a0_2 true _ A16.out).mono ?_); rintro e w' ⟨rfl, ⟨nd, rfl⟩⟩; (try clear A16)))
     go_ret
     exact ⟨zq75_, zq7a_⟩
    ·replace c17 := Bool.eq_false_iff.mpr c17
     subst c17
     rw [if_neg (show ¬ (false = true) by decide)] at H
     obtain rfl := Option.some.inj H
     go_enter Try.func99, Try.ntmps99
     go_wp2_with (first | ((with_reducible refine gate_dst (N := 1) rfl ?_); refine bxe_ (N := 1) (cs := #[.int .i64 a0_0, .int .i64 a0_1, .int .i64 a0_2, .int .i64 a0_3]) (t := 34) ?_; intro gb107 hg w20 hbox hb; have n_ := A4_ (below_step zqa3_ hb) (hbox) ((zqd6_ : w.heap.size ≤ gb107)) ((zqd6_ : w.heap.size ≤ gb107)); clear HB; obtain ⟨HB, BK107, GW107, GE107⟩ := n_; clear hb hbox hg; have hcz21_0 := bc0_ BK107.out; have hcz21_1 := bc1_ BK107.out; have hcz21_2 := bc2_ BK107.out; have hcz21_3 := bc3_ BK107.out; have hfz21_0 := blk_frozen BK107.out 0; have hfz21_1 := blk_frozen BK107.out 1; have hfz21_2 := blk_frozen BK107.out 2; have hfz21_3 := blk_frozen BK107.out 3) | (go_at_call 109; (with_reducible refine (impl_insOk_2.calls a0_1 true _ A14.out).mono ?_); rintro e w' ⟨rfl, ⟨nd, rfl⟩⟩; (try clear A14)) | (go_at_call 108; (with_reducible refine (impl_insOk_1.calls a0_2 false _ A16.out).mono ?_); rintro e w' ⟨rfl, ⟨nd, rfl⟩⟩; (try clear A16)))
     go_ret
     exact ⟨zq75_, zq7a_⟩
   ·replace c15 := Bool.eq_false_iff.mpr c15
    subst c15
    rw [if_neg (show ¬ (false = true) by decide)] at H
    obtain rfl := Option.some.inj H
    go_enter Try.func99, Try.ntmps99
    go_wp2_with (first | ((with_reducible refine gate_dst (N := 1) rfl ?_); refine bxe_ (N := 1) (cs := #[.int .i64 a0_0, .int .i64 a0_1, .int .i64 a0_2, .int .i64 a0_3]) (t := 34) ?_; intro gb107 hg w22 hbox hb; have n_ := A4_ (below_step zqa3_ hb) (hbox) ((zqd6_ : w.heap.size ≤ gb107)) ((zqd6_ : w.heap.size ≤ gb107)); clear HB; obtain ⟨HB, BK107, GW107, GE107⟩ := n_; clear hb hbox hg; have hcz23_0 := bc0_ BK107.out; have hcz23_1 := bc1_ BK107.out; have hcz23_2 := bc2_ BK107.out; have hcz23_3 := bc3_ BK107.out; have hfz23_0 := blk_frozen BK107.out 0; have hfz23_1 := blk_frozen BK107.out 1; have hfz23_2 := blk_frozen BK107.out 2; have hfz23_3 := blk_frozen BK107.out 3) | (go_at_call 109; (with_reducible refine (impl_insOk_2.calls a0_1 false _ A14.out).mono ?_); rintro e w' ⟨rfl, ⟨nd, rfl⟩⟩; (try clear A14)))
    go_ret
    exact ⟨zq75_, zq7a_⟩
  ·rw [if_neg c13] at H
   have c13b0 : (a0_0 == 2) = false := beq_eq_false_iff_ne.mpr c13
   have c13b1 : (a0_0 != 2) = true := bne_iff_ne.mpr c13
   by_cases c24 : a0_0 = 3
   ·rw [if_pos c24] at H
    have c24b0 : (a0_0 == 3) = true := beq_iff_eq.mpr c24
    have c24b1 : (a0_0 != 3) = false := bne_eq_false_iff_eq.mpr c24
    clear c24
    replace H := Option.bind_eq_some_iff.mp H
    obtain ⟨t112, A250, H⟩ := H
    (try dsimp only at H)
    have A25 := Aside0.mk A250
    clear A250
    by_cases c26 : t112 = true
    ·subst c26
     rw [if_pos rfl] at H
     by_cases c27 : a0_2 = 0
     ·rw [if_pos c27] at H
      have c27b0 : (a0_2 == 0) = true := beq_iff_eq.mpr c27
      have c27b1 : (a0_2 != 0) = false := bne_eq_false_iff_eq.mpr c27
      clear c27
      replace H := Option.bind_eq_some_iff.mp H
      obtain ⟨t113, A280, H⟩ := H
      (try dsimp only at H)
      have A28 := Aside0.mk A280
      clear A280
      obtain rfl := Option.some.inj H
      go_enter Try.func99, Try.ntmps99
      go_wp2_with (first | ((with_reducible refine gate_dst (N := 1) rfl ?_); refine bxe_ (N := 1) (cs := #[.int .i64 a0_0, .int .i64 a0_1, .int .i64 a0_2, .int .i64 a0_3]) (t := 34) ?_; intro gb107 hg w29 hbox hb; have n_ := A4_ (below_step zqa3_ hb) (hbox) ((zqd6_ : w.heap.size ≤ gb107)) ((zqd6_ : w.heap.size ≤ gb107)); clear HB; obtain ⟨HB, BK107, GW107, GE107⟩ := n_; clear hb hbox hg; have hcz30_0 := bc0_ BK107.out; have hcz30_1 := bc1_ BK107.out; have hcz30_2 := bc2_ BK107.out; have hcz30_3 := bc3_ BK107.out; have hfz30_0 := blk_frozen BK107.out 0; have hfz30_1 := blk_frozen BK107.out 1; have hfz30_2 := blk_frozen BK107.out 2; have hfz30_3 := blk_frozen BK107.out 3) | (go_at_call 108; (with_reducible refine (impl_insOk_1.calls a0_1 true _ A25.out).mono ?_); rintro e w' ⟨rfl, ⟨nd, rfl⟩⟩; (try clear A25)) | (go_at_call 64; (with_reducible refine (impl_in.calls a0_3 (-1000000) 1000000 t113 _ A28.out).mono ?_); rintro e w' ⟨rfl, ⟨nd, rfl⟩⟩; (try clear A28)))
      go_ret
      exact ⟨zq75_, zq7a_⟩
     ·rw [if_neg c27] at H
      have c27b0 : (a0_2 == 0) = false := beq_eq_false_iff_ne.mpr c27
      have c27b1 : (a0_2 != 0) = true := bne_iff_ne.mpr c27
      obtain rfl := Option.some.inj H
      go_enter Try.func99, Try.ntmps99
      go_wp2_with (first | ((with_reducible refine gate_dst (N := 1) rfl ?_); refine bxe_ (N := 1) (cs := #[.int .i64 a0_0, .int .i64 a0_1, .int .i64 a0_2, .int .i64 a0_3]) (t := 34) ?_; intro gb107 hg w31 hbox hb; have n_ := A4_ (below_step zqa3_ hb) (hbox) ((zqd6_ : w.heap.size ≤ gb107)) ((zqd6_ : w.heap.size ≤ gb107)); clear HB; obtain ⟨HB, BK107, GW107, GE107⟩ := n_; clear hb hbox hg; have hcz32_0 := bc0_ BK107.out; have hcz32_1 := bc1_ BK107.out; have hcz32_2 := bc2_ BK107.out; have hcz32_3 := bc3_ BK107.out; have hfz32_0 := blk_frozen BK107.out 0; have hfz32_1 := blk_frozen BK107.out 1; have hfz32_2 := blk_frozen BK107.out 2; have hfz32_3 := blk_frozen BK107.out 3) | (go_at_call 108; (with_reducible refine (impl_insOk_1.calls a0_1 true _ A25.out).mono ?_); rintro e w' ⟨rfl, ⟨nd, rfl⟩⟩; (try clear A25)))
      go_ret
      exact ⟨zq75_, zq7a_⟩
    ·replace c26 := Bool.eq_false_iff.mpr c26
     subst c26
     rw [if_neg (show ¬ (false = true) by decide)] at H
     obtain rfl := Option.some.inj H
     go_enter Try.func99, Try.ntmps99
     go_wp2_with (first | ((with_reducible refine gate_dst (N := 1) rfl ?_); refine bxe_ (N := 1) (cs := #[.int .i64 a0_0, .int .i64 a0_1, .int .i64 a0_2, .int .i64 a0_3]) (t := 34) ?_; intro gb107 hg w33 hbox hb; have n_ := A4_ (below_step zqa3_ hb) (hbox) ((zqd6_ : w.heap.size ≤ gb107)) ((zqd6_ : w.heap.size ≤ gb107)); clear HB; obtain ⟨HB, BK107, GW107, GE107⟩ := n_; clear hb hbox hg; have hcz34_0 := bc0_ BK107.out; have hcz34_1 := bc1_ BK107.out; have hcz34_2 := bc2_ BK107.out; have hcz34_3 := bc3_ BK107.out; have hfz34_0 := blk_frozen BK107.out 0; have hfz34_1 := blk_frozen BK107.out 1; have hfz34_2 := blk_frozen BK107.out 2; have hfz34_3 := blk_frozen BK107.out 3) | (go_at_call 108; (with_reducible refine (impl_insOk_1.calls a0_1 false _ A25.out).mono ?_); rintro e w' ⟨rfl, ⟨nd, rfl⟩⟩; (try clear A25)))
     go_ret
     exact ⟨zq75_, zq7a_⟩
   ·rw [if_neg c24] at H
    have c24b0 : (a0_0 == 3) = false := beq_eq_false_iff_ne.mpr c24
    have c24b1 : (a0_0 != 3) = true := bne_iff_ne.mpr c24
    have HC35 := Aside0.mk H
    clear H
    go_enter Try.func99, Try.ntmps99
    go_upto_if 57 with (first | ((with_reducible refine gate_dst (N := 1) rfl ?_); refine bxe_ (N := 1) (cs := #[.int .i64 a0_0, .int .i64 a0_1, .int .i64 a0_2, .int .i64 a0_3]) (t := 34) ?_; intro gb107 hg w36 hbox hb; have n_ := A4_ (below_step zqa3_ hb) (hbox) ((zqd6_ : w.heap.size ≤ gb107)) ((zqd6_ : w.heap.size ≤ gb107)); clear HB; obtain ⟨HB, BK107, GW107, GE107⟩ := n_; clear hb hbox hg; have hcz37_0 := bc0_ BK107.out; have hcz37_1 := bc1_ BK107.out; have hcz37_2 := bc2_ BK107.out; have hcz37_3 := bc3_ BK107.out; have hfz37_0 := blk_frozen BK107.out 0; have hfz37_1 := blk_frozen BK107.out 1; have hfz37_2 := blk_frozen BK107.out 2; have hfz37_3 := blk_frozen BK107.out 3))
    (try simp only [Act.put, List.setIfInBounds_toArray, List.set_cons_zero, List.set_cons_succ])
    go_cut [57] (fun v57 wc => ∃ (kq : Nat) (x57_34 : Bool), v57 = .bool x57_34 ∧ Aside0 (impl_insOk.j0 kq a0_0 x57_34 a0_0 a0_1 a0_2 a0_3 = some r) ∧ Aside0 (kq ≤ k) ∧ Aside0 (wc.heap[gb107]? = some (.cells #[.int .i64 a0_0, .int .i64 a0_1, .int .i64 a0_2, .int .i64 a0_3] 34 (0, 0))) ∧ Aside0 (Below w.heap.size w wc))
    case first =>
     have H := HC35.out
     clear HC35
     by_cases c38 : a0_0 = 4
     ·rw [if_pos c38] at H
      have c38b0 : (a0_0 == 4) = true := beq_iff_eq.mpr c38
      have c38b1 : (a0_0 != 4) = false := bne_eq_false_iff_eq.mpr c38
      clear c38
      (first | rw [c38b0] | (simp only [i64_w, i32_w]; rw [c38b0]) | skip)
      have H' := Aside0.mk H
      clear H
      go_wp2
      go_meet
      case rel => exact ⟨_, ((a0_0 == 4)), zq76_, H', ⟨zq74_⟩, ⟨zq33_⟩, ⟨zq7a_⟩⟩
     ·rw [if_neg c38] at H
      have c38b0 : (a0_0 == 4) = false := beq_eq_false_iff_ne.mpr c38
      have c38b1 : (a0_0 != 4) = true := bne_iff_ne.mpr c38
      (first | rw [c38b0] | (simp only [i64_w, i32_w]; rw [c38b0]) | skip)
      have H' := Aside0.mk H
      clear H
      go_wp2
      go_meet
      case rel => exact ⟨_, ((a0_0 == 5)), zq76_, H', ⟨zq74_⟩, ⟨zq33_⟩, ⟨zq7a_⟩⟩
    case rest =>
     clear HC35
     try clear c1
     try clear c2
     try clear c2b0
     try clear c2b1
     try clear p2
     try clear c3
     try clear c4
     try clear c6
     try clear c9
     try clear c13
     try clear c13b0
     try clear c13b1
     try clear c15
     try clear c17
     try clear c24
     try clear c24b0
     try clear c24b1
     try clear c26
     try clear c27
     try clear c27b0
     try clear c27b1
     try clear c38
     try clear c38b0
     try clear c38b1
     try clear hcz10_0 hcz10_1 hcz10_2 hcz10_3 hfz10_0 hfz10_1 hfz10_2 hfz10_3
     try clear hcz12_0 hcz12_1 hcz12_2 hcz12_3 hfz12_0 hfz12_1 hfz12_2 hfz12_3
     try clear hcz19_0 hcz19_1 hcz19_2 hcz19_3 hfz19_0 hfz19_1 hfz19_2 hfz19_3
     try clear hcz21_0 hcz21_1 hcz21_2 hcz21_3 hfz21_0 hfz21_1 hfz21_2 hfz21_3
     try clear hcz23_0 hcz23_1 hcz23_2 hcz23_3 hfz23_0 hfz23_1 hfz23_2 hfz23_3
     try clear hcz30_0 hcz30_1 hcz30_2 hcz30_3 hfz30_0 hfz30_1 hfz30_2 hfz30_3
     try clear hcz32_0 hcz32_1 hcz32_2 hcz32_3 hfz32_0 hfz32_1 hfz32_2 hfz32_3
     try clear hcz34_0 hcz34_1 hcz34_2 hcz34_3 hfz34_0 hfz34_1 hfz34_2 hfz34_3
     try clear hcz37_0 hcz37_1 hcz37_2 hcz37_3 hfz37_0 hfz37_1 hfz37_2 hfz37_3
     try clear hcz8_0 hcz8_1 hcz8_2 hcz8_3 hfz8_0 hfz8_1 hfz8_2 hfz8_3
     obtain ⟨kq, x57_34, rfl, HA, HJ34, BK107, HB⟩ := hcut
     cases kq with
     | zero => exact absurd HA.out (by simp [impl_insOk.j0])
     | succ kj34 =>
      have H := HA.out
      clear HA
      simp only [impl_insOk.j0] at H
      by_cases c39 : x57_34 = true
      ·subst c39
       rw [if_pos rfl] at H
       replace H := Option.bind_eq_some_iff.mp H
       obtain ⟨t114, A400, H⟩ := H
       (try dsimp only at H)
       have A40 := Aside0.mk A400
       clear A400
       by_cases c41 : t114 = true
       ·subst c41
        rw [if_pos rfl] at H
        replace H := Option.bind_eq_some_iff.mp H
        obtain ⟨t115, A420, H⟩ := H
        (try dsimp only at H)
        have A42 := Aside0.mk A420
        clear A420
        by_cases c43 : t115 = true
        ·subst c43
         rw [if_pos rfl] at H
         obtain rfl := Option.some.inj H
         have hcz44_0 := bc0_ BK107.out
         have hcz44_1 := bc1_ BK107.out
         have hcz44_2 := bc2_ BK107.out
         have hcz44_3 := bc3_ BK107.out
         have hfz44_0 := blk_frozen BK107.out 0
         have hfz44_1 := blk_frozen BK107.out 1
         have hfz44_2 := blk_frozen BK107.out 2
         have hfz44_3 := blk_frozen BK107.out 3
         go_wp2_with (first | (go_at_call 108; (with_reducible refine (impl_insOk_1.calls a0_1 true _ A40.out).mono ?_); rintro e w' ⟨rfl, ⟨nd, rfl⟩⟩; (try clear A40)) | (go_at_call 108; (with_reducible refine (impl_insOk_1.calls a0_2 true _ A42.out).mono ?_); rintro e w' ⟨rfl, ⟨nd, rfl⟩⟩; (try clear A42)))
         go_ret
         exact ⟨zq75_, zq7a_⟩
        ·replace c43 := Bool.eq_false_iff.mpr c43
         subst c43
         rw [if_neg (show ¬ (false = true) by decide)] at H
         obtain rfl := Option.some.inj H
         have hcz45_0 := bc0_ BK107.out
         have hcz45_1 := bc1_ BK107.out
         have hcz45_2 := bc2_ BK107.out
         have hcz45_3 := bc3_ BK107.out
         have hfz45_0 := blk_frozen BK107.out 0
         have hfz45_1 := blk_frozen BK107.out 1
         have hfz45_2 := blk_frozen BK107.out 2
         have hfz45_3 := blk_frozen BK107.out 3
         go_wp2_with (first | (go_at_call 108; (with_reducible refine (impl_insOk_1.calls a0_1 true _ A40.out).mono ?_); rintro e w' ⟨rfl, ⟨nd, rfl⟩⟩; (try clear A40)) | (go_at_call 108; (with_reducible refine (impl_insOk_1.calls a0_2 false _ A42.out).mono ?_); rintro e w' ⟨rfl, ⟨nd, rfl⟩⟩; (try clear A42)))
         go_ret
         exact ⟨zq75_, zq7a_⟩
       ·replace c41 := Bool.eq_false_iff.mpr c41
        subst c41
        rw [if_neg (show ¬ (false = true) by decide)] at H
        obtain rfl := Option.some.inj H
        have hcz46_0 := bc0_ BK107.out
        have hcz46_1 := bc1_ BK107.out
        have hcz46_2 := bc2_ BK107.out
        have hcz46_3 := bc3_ BK107.out
        have hfz46_0 := blk_frozen BK107.out 0
        have hfz46_1 := blk_frozen BK107.out 1
        have hfz46_2 := blk_frozen BK107.out 2
        have hfz46_3 := blk_frozen BK107.out 3
        go_wp2_with (first | (go_at_call 108; (with_reducible refine (impl_insOk_1.calls a0_1 false _ A40.out).mono ?_); rintro e w' ⟨rfl, ⟨nd, rfl⟩⟩; (try clear A40)))
        go_ret
        exact ⟨zq75_, zq7a_⟩
      ·replace c39 := Bool.eq_false_iff.mpr c39
       subst c39
       rw [if_neg (show ¬ (false = true) by decide)] at H
       by_cases c47 : a0_0 = 6
       ·rw [if_pos c47] at H
        have c47b0 : (a0_0 == 6) = true := beq_iff_eq.mpr c47
        have c47b1 : (a0_0 != 6) = false := bne_eq_false_iff_eq.mpr c47
        clear c47
        replace H := Option.bind_eq_some_iff.mp H
        obtain ⟨t116, A480, H⟩ := H
        (try dsimp only at H)
        have A48 := Aside0.mk A480
        clear A480
        by_cases c49 : t116 = true
        ·subst c49
         rw [if_pos rfl] at H
         replace H := Option.bind_eq_some_iff.mp H
         obtain ⟨t117, A500, H⟩ := H
         (try dsimp only at H)
         have A50 := Aside0.mk A500
         clear A500
         by_cases c51 : t117 = true
         ·subst c51
          rw [if_pos rfl] at H
          replace H := Option.bind_eq_some_iff.mp H
          obtain ⟨t118, A520, H⟩ := H
          (try dsimp only at H)
          have A52 := Aside0.mk A520
          clear A520
          obtain rfl := Option.some.inj H
          have hcz53_0 := bc0_ BK107.out
          have hcz53_1 := bc1_ BK107.out
          have hcz53_2 := bc2_ BK107.out
          have hcz53_3 := bc3_ BK107.out
          have hfz53_0 := blk_frozen BK107.out 0
          have hfz53_1 := blk_frozen BK107.out 1
          have hfz53_2 := blk_frozen BK107.out 2
          have hfz53_3 := blk_frozen BK107.out 3
          go_wp2_with (first | (go_at_call 108; (with_reducible refine (impl_insOk_1.calls a0_1 true _ A48.out).mono ?_); rintro e w' ⟨rfl, ⟨nd, rfl⟩⟩; (try clear A48)) | (go_at_call 108; (with_reducible refine (impl_insOk_1.calls a0_2 true _ A50.out).mono ?_); rintro e w' ⟨rfl, ⟨nd, rfl⟩⟩; (try clear A50)) | (go_at_call 64; (with_reducible refine (impl_in.calls a0_3 1 10 t118 _ A52.out).mono ?_); rintro e w' ⟨rfl, ⟨nd, rfl⟩⟩; (try clear A52)))
          go_ret
          exact ⟨zq75_, zq7a_⟩
         ·replace c51 := Bool.eq_false_iff.mpr c51
          subst c51
          rw [if_neg (show ¬ (false = true) by decide)] at H
          obtain rfl := Option.some.inj H
          have hcz54_0 := bc0_ BK107.out
          have hcz54_1 := bc1_ BK107.out
          have hcz54_2 := bc2_ BK107.out
          have hcz54_3 := bc3_ BK107.out
          have hfz54_0 := blk_frozen BK107.out 0
          have hfz54_1 := blk_frozen BK107.out 1
          have hfz54_2 := blk_frozen BK107.out 2
          have hfz54_3 := blk_frozen BK107.out 3
          go_wp2_with (first | (go_at_call 108; (with_reducible refine (impl_insOk_1.calls a0_1 true _ A48.out).mono ?_); rintro e w' ⟨rfl, ⟨nd, rfl⟩⟩; (try clear A48)) | (go_at_call 108; (with_reducible refine (impl_insOk_1.calls a0_2 false _ A50.out).mono ?_); rintro e w' ⟨rfl, ⟨nd, rfl⟩⟩; (try clear A50)))
          go_ret
          exact ⟨zq75_, zq7a_⟩
        ·replace c49 := Bool.eq_false_iff.mpr c49
         subst c49
         rw [if_neg (show ¬ (false = true) by decide)] at H
         obtain rfl := Option.some.inj H
         have hcz55_0 := bc0_ BK107.out
         have hcz55_1 := bc1_ BK107.out
         have hcz55_2 := bc2_ BK107.out
         have hcz55_3 := bc3_ BK107.out
         have hfz55_0 := blk_frozen BK107.out 0
         have hfz55_1 := blk_frozen BK107.out 1
         have hfz55_2 := blk_frozen BK107.out 2
         have hfz55_3 := blk_frozen BK107.out 3
         go_wp2_with (first | (go_at_call 108; (with_reducible refine (impl_insOk_1.calls a0_1 false _ A48.out).mono ?_); rintro e w' ⟨rfl, ⟨nd, rfl⟩⟩; (try clear A48)))
         go_ret
         exact ⟨zq75_, zq7a_⟩
       ·rw [if_neg c47] at H
        have c47b0 : (a0_0 == 6) = false := beq_eq_false_iff_ne.mpr c47
        have c47b1 : (a0_0 != 6) = true := bne_iff_ne.mpr c47
        by_cases c56 : a0_0 = 7
        ·rw [if_pos c56] at H
         have c56b0 : (a0_0 == 7) = true := beq_iff_eq.mpr c56
         have c56b1 : (a0_0 != 7) = false := bne_eq_false_iff_eq.mpr c56
         clear c56
         by_cases c57 : a0_1 = 0
         ·rw [if_pos c57] at H
          have c57b0 : (a0_1 == 0) = true := beq_iff_eq.mpr c57
          have c57b1 : (a0_1 != 0) = false := bne_eq_false_iff_eq.mpr c57
          clear c57
          by_cases c58 : a0_2 = 0
          ·rw [if_pos c58] at H
           have c58b0 : (a0_2 == 0) = true := beq_iff_eq.mpr c58
           have c58b1 : (a0_2 != 0) = false := bne_eq_false_iff_eq.mpr c58
           clear c58
           obtain rfl := Option.some.inj H
           have hcz59_0 := bc0_ BK107.out
           have hcz59_1 := bc1_ BK107.out
           have hcz59_2 := bc2_ BK107.out
           have hcz59_3 := bc3_ BK107.out
           have hfz59_0 := blk_frozen BK107.out 0
           have hfz59_1 := blk_frozen BK107.out 1
           have hfz59_2 := blk_frozen BK107.out 2
           have hfz59_3 := blk_frozen BK107.out 3
           go_wp2
           go_ret
           exact ⟨zq75_, zq7a_⟩
          ·rw [if_neg c58] at H
           have c58b0 : (a0_2 == 0) = false := beq_eq_false_iff_ne.mpr c58
           have c58b1 : (a0_2 != 0) = true := bne_iff_ne.mpr c58
           obtain rfl := Option.some.inj H
           have hcz60_0 := bc0_ BK107.out
           have hcz60_1 := bc1_ BK107.out
           have hcz60_2 := bc2_ BK107.out
           have hcz60_3 := bc3_ BK107.out
           have hfz60_0 := blk_frozen BK107.out 0
           have hfz60_1 := blk_frozen BK107.out 1
           have hfz60_2 := blk_frozen BK107.out 2
           have hfz60_3 := blk_frozen BK107.out 3
           go_wp2
           go_ret
           exact ⟨zq75_, zq7a_⟩
         ·rw [if_neg c57] at H
          have c57b0 : (a0_1 == 0) = false := beq_eq_false_iff_ne.mpr c57
          have c57b1 : (a0_1 != 0) = true := bne_iff_ne.mpr c57
          obtain rfl := Option.some.inj H
          have hcz61_0 := bc0_ BK107.out
          have hcz61_1 := bc1_ BK107.out
          have hcz61_2 := bc2_ BK107.out
          have hcz61_3 := bc3_ BK107.out
          have hfz61_0 := blk_frozen BK107.out 0
          have hfz61_1 := blk_frozen BK107.out 1
          have hfz61_2 := blk_frozen BK107.out 2
          have hfz61_3 := blk_frozen BK107.out 3
          go_wp2
          go_ret
          exact ⟨zq75_, zq7a_⟩
        ·rw [if_neg c56] at H
         have c56b0 : (a0_0 == 7) = false := beq_eq_false_iff_ne.mpr c56
         have c56b1 : (a0_0 != 7) = true := bne_iff_ne.mpr c56
         obtain rfl := Option.some.inj H
         go_wp2
         go_ret
         exact ⟨zq75_, zq7a_⟩

end Go.Proofs.Ytgdafcakefnpdaa.PFnExactExecRun

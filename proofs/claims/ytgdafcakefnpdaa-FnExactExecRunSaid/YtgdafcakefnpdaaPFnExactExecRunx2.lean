-- Laid by this session's program out of the translation (gen.sh).
import Derived.Test.YtgdafcakefnpdaaPFnExactExecRunx0
import Derived.Test.YtgdafcakefnpdaaPFnExactExecRunx1
namespace Go.Proofs.Ytgdafcakefnpdaa.PFnExactExecRun
open Go.RowKit Go.Proofs.YtgdafcakefnpdaaW.PrintWords Go.Proofs.YtgdafcakefnpdaaW.PrintLast Go.Proofs.YtgdafcakefnpdaaW.PrintMore
attribute [local go_sem] max2_int min2_int max_two min_two max_three min_three max_four min_four   -- for this text's walks alone
set_option linter.unusedVariables false
set_option linter.unusedSimpArgs false

/-! ### impl_ProgOk: function 60 -/
def impl_ProgOk.l0 : Nat → List (S34) → List (S34) → Int → Int → Option (Bool)
 | 0, _, _, _, _ => none
 | k + 1, x0, x5, x6, x7 => if x7 < x6 then (if 0 ≤ x7 then (if x7 < (x5.length : Int) then ((impl_insOk.f k ((rd_T34 x5 x7).f0) ((rd_T34 x5 x7).f1) ((rd_T34 x5 x7).f2) ((rd_T34 x5 x7).f3)).bind fun t121 => (if t121 = true then (impl_ProgOk.l0 k x0 x5 x6 (wrap64 (x7 + 1))) else (some false))) else (none)) else (none)) else (some (decide ((x0.length : Int) ≤ 10)))
def impl_ProgOk.f (k : Nat) (l0 : List (S34)) : Option (Bool) := impl_ProgOk.l0 k l0 l0 (l0.length : Int) 0
theorem impl_ProgOk.mono_l : ∀ k, (∀ y0 y1 y2 y3, LeO (impl_ProgOk.l0 k y0 y1 y2 y3) (impl_ProgOk.l0 (k + 1) y0 y1 y2 y3))
 | 0 => fun _ _ _ _ r h => by simp [impl_ProgOk.l0] at h
 | k + 1 => by
  have ih0 := impl_ProgOk.mono_l k
  ·intro y0 y1 y2 y3
   unfold impl_ProgOk.l0
   repeat' first
   | (with_reducible exact ih0 _ _ _ _)
   | (with_reducible exact impl_insOk.mono _ _ _ _ _)
   | (with_reducible exact LeO.refl _)
   | (with_reducible exact LeO.none _)
   | (with_reducible refine LeO.ite ?_ ?_)
   | (with_reducible refine LeO.bind ?_ (fun _ => ?_))
   | exact ih0 _ _ _ _
   | exact impl_insOk.mono _ _ _ _ _
   | exact LeO.none _
   | refine LeO.ite ?_ ?_
   | refine LeO.bind ?_ (fun _ => ?_)
theorem impl_ProgOk.mono : ∀ a0 k, LeO (impl_ProgOk.f k a0) (impl_ProgOk.f (k + 1) a0) := by
 intro a0 k
 have ih0 := impl_ProgOk.mono_l k
 unfold impl_ProgOk.f
 repeat' first
   | (with_reducible exact ih0 _ _ _ _)
   | (with_reducible exact impl_insOk.mono _ _ _ _ _)
   | (with_reducible exact LeO.refl _)
   | (with_reducible exact LeO.none _)
   | (with_reducible refine LeO.ite ?_ ?_)
   | (with_reducible refine LeO.bind ?_ (fun _ => ?_))
   | exact ih0 _ _ _ _
   | exact impl_insOk.mono _ _ _ _ _
   | exact LeO.none _
   | refine LeO.ite ?_ ?_
   | refine LeO.bind ?_ (fun _ => ?_)
set_option maxHeartbeats 8000000 in
set_option maxRecDepth 100000 in
theorem impl_ProgOk.calls (k : Nat) (A0 : Option Addr) (c0 : Nat) (l0 : List (S34)) (r : Bool) (w : World) (hr0 : Kd.C k34 w A0 l0.length l0) (hc0 : l0.length ≤ c0) (h : impl_ProgOk.f k l0 = some r) :
  Calls Try.prog 60 #[.slice A0 l0.length c0] w fun e w' => e = .returned (.bool r) ∧ Below w.heap.size w w' := by
 have hu34 := Try.underlying34
 have HR0 := Aside0.mk hr0
 have HC0 := Aside0.mk hc0
 clear hr0 hc0
 have HB := Aside0.mk (Below.refl w.heap.size w)
 have H : (impl_ProgOk.l0 k l0 l0 (l0.length : Int) 0) = some r := h
 clear h
 have H' := Aside0.mk H
 clear H
 go_enter Try.func60, Try.ntmps60
 go_wp2
 go_loopg [7] k (fun kq v7 w' => ∃ (x7_1 : Int), v7 = .int .i64 x7_1 ∧ Aside0 (impl_ProgOk.l0 kq l0 l0 (l0.length : Int) x7_1 = some r) ∧ Aside0 (kq ≤ k) ∧ Aside0 (Below w.heap.size w w'))
 case atStart => exact ⟨(0), zq76_, H', ⟨Nat.le_refl _⟩, ⟨zqa3_⟩⟩
 case round =>
  clear H'
  obtain ⟨x7_1, rfl, HA, HK1, HB⟩ := hrel
  cases gk with
  | zero => exact absurd HA.out (by simp [impl_ProgOk.l0])
  | succ k1 =>
   have H := HA.out
   clear HA
   simp only [impl_ProgOk.l0] at H
   by_cases c2 : x7_1 < (l0.length : Int)
   ·rw [if_pos c2] at H
    have c2b0 : decide (x7_1 < (l0.length : Int)) = true := decide_eq_true c2
    clear c2
    by_cases c3 : 0 ≤ x7_1
    ·rw [if_pos c3] at H
     have c3b0 : decide (0 ≤ x7_1) = true := decide_eq_true c3
     clear c3
     by_cases c4 : x7_1 < (l0.length : Int)
     ·rw [if_pos c4] at H
      have c4b0 : decide (x7_1 < (l0.length : Int)) = true := decide_eq_true c4
      clear c4
      replace H := Option.bind_eq_some_iff.mp H
      obtain ⟨t121, A50, H⟩ := H
      (try dsimp only at H)
      have A5 := Aside0.mk A50
      clear A50
      by_cases c6 : t121 = true
      ·subst c6
       rw [if_pos rfl] at H
       have H' := Aside0.mk H
       clear H
       have p119 : 0 ≤ (x7_1 : Int) := of_decide_eq_true zq71_
       have q119 : x7_1 < (l0.length : Int) := of_decide_eq_true zq71_
       obtain ⟨ad119, e119, hx119_0, hx119_1, hx119_2, hx119_3⟩ := at_T34 HR0.out x7_1 p119 q119
       cases e119
       replace hx119_0 := (HB.out.cell (World.block_lt_of_cell? w _ hx119_0)).trans hx119_0
       replace hx119_1 := (HB.out.cell (World.block_lt_of_cell? w _ hx119_1)).trans hx119_1
       replace hx119_2 := (HB.out.cell (World.block_lt_of_cell? w _ hx119_2)).trans hx119_2
       replace hx119_3 := (HB.out.cell (World.block_lt_of_cell? w _ hx119_3)).trans hx119_3
       replace p119 := eq_true p119
       replace q119 := eq_true q119
       go_wp2_with (first | ((with_reducible refine gate_dst (N := 4) rfl ?_); refine bxe_ (N := 4) (cs := #[.int .i64 0, .int .i64 0, .int .i64 0, .int .i64 0]) (t := 34) ?_; intro gb120 hg w7 hbox hb; have n_ := A4_ (below_step zqa3_ hb) (hbox) ((zqd6_ : w.heap.size ≤ gb120)) ((zqd6_ : w.heap.size ≤ gb120)); clear HB; obtain ⟨HB, BK120, GW120, GE120⟩ := n_; clear hb hbox hg; have hcz8_0 := bc0_ BK120.out; have hcz8_1 := bc1_ BK120.out; have hcz8_2 := bc2_ BK120.out; have hcz8_3 := bc3_ BK120.out; have hfz8_0 := blk_frozen BK120.out 0; have hfz8_1 := blk_frozen BK120.out 1; have hfz8_2 := blk_frozen BK120.out 2; have hfz8_3 := blk_frozen BK120.out 3) | ((with_reducible refine gate_callee (f := 99) rfl ?_); refine goesL_ (some 12) rfl rfl Try.func99 (by kernel_rfl) rfl #[.agg #[.int .i64 ((rd_T34 l0 x7_1).f0), .int .i64 ((rd_T34 l0 x7_1).f1), .int .i64 ((rd_T34 l0 x7_1).f2), .int .i64 ((rd_T34 l0 x7_1).f3)]] rfl zq1_ ?_; (with_reducible refine (impl_insOk.calls k1 ((rd_T34 l0 x7_1).f0) ((rd_T34 l0 x7_1).f1) ((rd_T34 l0 x7_1).f2) ((rd_T34 l0 x7_1).f3) true _ A5.out).mono ?_); rintro e w9 ⟨rfl, hb⟩; refine ⟨_, rfl, ?_⟩; have n_ := A2_ (blk_below (g := gb120) (o := .cells #[.int .i64 ((rd_T34 l0 x7_1).f0), .int .i64 ((rd_T34 l0 x7_1).f1), .int .i64 ((rd_T34 l0 x7_1).f2), .int .i64 ((rd_T34 l0 x7_1).f3)] 34 (0, 0)) zq63_ hb) (below_step zq7b_ hb); clear BK120 HB; obtain ⟨BK120, HB⟩ := n_; (try clear hb)))
       go_roundg k1
       case measure => have := HK1.out; omega
       case rel => exact ⟨(wrap64 (x7_1 + 1)), zq76_, H', ⟨by have := HK1.out; omega⟩, ⟨zq7b_⟩⟩
      ·replace c6 := Bool.eq_false_iff.mpr c6
       subst c6
       rw [if_neg (show ¬ (false = true) by decide)] at H
       obtain rfl := Option.some.inj H
       have p119 : 0 ≤ (x7_1 : Int) := of_decide_eq_true zq71_
       have q119 : x7_1 < (l0.length : Int) := of_decide_eq_true zq71_
       obtain ⟨ad119, e119, hx119_0, hx119_1, hx119_2, hx119_3⟩ := at_T34 HR0.out x7_1 p119 q119
       cases e119
       replace hx119_0 := (HB.out.cell (World.block_lt_of_cell? w _ hx119_0)).trans hx119_0
       replace hx119_1 := (HB.out.cell (World.block_lt_of_cell? w _ hx119_1)).trans hx119_1
       replace hx119_2 := (HB.out.cell (World.block_lt_of_cell? w _ hx119_2)).trans hx119_2
       replace hx119_3 := (HB.out.cell (World.block_lt_of_cell? w _ hx119_3)).trans hx119_3
       replace p119 := eq_true p119
       replace q119 := eq_true q119
       go_wp2_with (first | ((with_reducible refine gate_dst (N := 4) rfl ?_); refine bxe_ (N := 4) (cs := #[.int .i64 0, .int .i64 0, .int .i64 0, .int .i64 0]) (t := 34) ?_; intro gb120 hg w10 hbox hb; have n_ := A4_ (below_step zqa3_ hb) (hbox) ((zqd6_ : w.heap.size ≤ gb120)) ((zqd6_ : w.heap.size ≤ gb120)); clear HB; obtain ⟨HB, BK120, GW120, GE120⟩ := n_; clear hb hbox hg; have hcz11_0 := bc0_ BK120.out; have hcz11_1 := bc1_ BK120.out; have hcz11_2 := bc2_ BK120.out; have hcz11_3 := bc3_ BK120.out; have hfz11_0 := blk_frozen BK120.out 0; have hfz11_1 := blk_frozen BK120.out 1; have hfz11_2 := blk_frozen BK120.out 2; have hfz11_3 := blk_frozen BK120.out 3) | ((with_reducible refine gate_callee (f := 99) rfl ?_); refine goesL_ (some 12) rfl rfl Try.func99 (by kernel_rfl) rfl #[.agg #[.int .i64 ((rd_T34 l0 x7_1).f0), .int .i64 ((rd_T34 l0 x7_1).f1), .int .i64 ((rd_T34 l0 x7_1).f2), .int .i64 ((rd_T34 l0 x7_1).f3)]] rfl zq1_ ?_; (with_reducible refine (impl_insOk.calls k1 ((rd_T34 l0 x7_1).f0) ((rd_T34 l0 x7_1).f1) ((rd_T34 l0 x7_1).f2) ((rd_T34 l0 x7_1).f3) false _ A5.out).mono ?_); rintro e w12 ⟨rfl, hb⟩; refine ⟨_, rfl, ?_⟩; have n_ := A2_ (blk_below (g := gb120) (o := .cells #[.int .i64 ((rd_T34 l0 x7_1).f0), .int .i64 ((rd_T34 l0 x7_1).f1), .int .i64 ((rd_T34 l0 x7_1).f2), .int .i64 ((rd_T34 l0 x7_1).f3)] 34 (0, 0)) zq63_ hb) (below_step zq7b_ hb); clear BK120 HB; obtain ⟨BK120, HB⟩ := n_; (try clear hb)))
       go_ret
       exact ⟨zq75_, zq7b_⟩
     ·rw [if_neg c4] at H
      exact absurd H (by simp)
    ·rw [if_neg c3] at H
     exact absurd H (by simp)
   ·rw [if_neg c2] at H
    have c2b0 : decide (x7_1 < (l0.length : Int)) = false := decide_eq_false c2
    clear c2
    obtain rfl := Option.some.inj H
    go_wp2
    go_ret
    exact ⟨zq75_, zqa3_⟩

/-! ### impl_putAt: function 61 -/
def impl_putAt.l0 : Nat → Int → List (S36) → Int → Int → Option (Int)
 | 0, _, _, _, _ => none
 | k + 1, x1, x8, x9, x10 => if x10 < x9 then (if 0 ≤ x10 then (if x10 < (x8.length : Int) then (if ((rd_T36 x8 x10).f0) = x1 then (some x10) else (impl_putAt.l0 k x1 x8 x9 (wrap64 (x10 + 1)))) else (none)) else (none)) else (some (-1))
def impl_putAt.f (k : Nat) (l0_0 : List (S48)) (l0_1 : List (S36)) (a0_2 : Int) (a0_3 : Int) (a1 : Int) : Option (Int) := impl_putAt.l0 k a1 l0_1 (l0_1.length : Int) 0
theorem impl_putAt.mono_l : ∀ k, (∀ y0 y1 y2 y3, LeO (impl_putAt.l0 k y0 y1 y2 y3) (impl_putAt.l0 (k + 1) y0 y1 y2 y3))
 | 0 => fun _ _ _ _ r h => by simp [impl_putAt.l0] at h
 | k + 1 => by
  have ih0 := impl_putAt.mono_l k
  ·intro y0 y1 y2 y3
   unfold impl_putAt.l0
   repeat' first
   | (with_reducible exact ih0 _ _ _ _)
   | (with_reducible exact LeO.refl _)
   | (with_reducible exact LeO.none _)
   | (with_reducible refine LeO.ite ?_ ?_)
   | (with_reducible refine LeO.bind ?_ (fun _ => ?_))
   | exact ih0 _ _ _ _
   | exact LeO.none _
   | refine LeO.ite ?_ ?_
   | refine LeO.bind ?_ (fun _ => ?_)
theorem impl_putAt.mono : ∀ a0 a1 a2 a3 a4 k, LeO (impl_putAt.f k a0 a1 a2 a3 a4) (impl_putAt.f (k + 1) a0 a1 a2 a3 a4) := by
 intro a0 a1 a2 a3 a4 k
 have ih0 := impl_putAt.mono_l k
 unfold impl_putAt.f
 repeat' first
   | (with_reducible exact ih0 _ _ _ _)
   | (with_reducible exact LeO.refl _)
   | (with_reducible exact LeO.none _)
   | (with_reducible refine LeO.ite ?_ ?_)
   | (with_reducible refine LeO.bind ?_ (fun _ => ?_))
   | exact ih0 _ _ _ _
   | exact LeO.none _
   | refine LeO.ite ?_ ?_
   | refine LeO.bind ?_ (fun _ => ?_)
set_option maxHeartbeats 8000000 in
set_option maxRecDepth 100000 in
theorem impl_putAt.calls (k : Nat) (A0_0 : Option Addr) (c0_0 : Nat) (l0_0 : List (S48)) (A0_1 : Option Addr) (c0_1 : Nat) (l0_1 : List (S36)) (a0_2 : Int) (a0_3 : Int) (a1 : Int) (r : Int) (w : World) (hr0_0 : Kd.C k48 w A0_0 l0_0.length l0_0) (hc0_0 : l0_0.length ≤ c0_0) (hr0_1 : Kd.C k36 w A0_1 l0_1.length l0_1) (hc0_1 : l0_1.length ≤ c0_1) (h : impl_putAt.f k l0_0 l0_1 a0_2 a0_3 a1 = some r) :
  Calls Try.prog 61 #[.agg #[.slice A0_0 l0_0.length c0_0, .slice A0_1 l0_1.length c0_1, .int .i64 a0_2, .int .i64 a0_3], .int .i64 a1] w fun e w' => e = .returned (.int .i64 r) ∧ Below w.heap.size w w' := by
 have hu30 := Try.underlying30
 have hu36 := Try.underlying36
 have HR0_0 := Aside0.mk hr0_0
 have HC0_0 := Aside0.mk hc0_0
 clear hr0_0 hc0_0
 have HR0_1 := Aside0.mk hr0_1
 have HC0_1 := Aside0.mk hc0_1
 clear hr0_1 hc0_1
 have HB := Aside0.mk (Below.refl w.heap.size w)
 have H : (impl_putAt.l0 k a1 l0_1 (l0_1.length : Int) 0) = some r := h
 clear h
 have H' := Aside0.mk H
 clear H
 go_enter Try.func61, Try.ntmps61
 go_wp2_with (first | ((with_reducible refine gate_dst (N := 2) rfl ?_); refine bxe_ (N := 2) (cs := #[.slice A0_0 l0_0.length c0_0, .slice A0_1 l0_1.length c0_1, .int .i64 a0_2, .int .i64 a0_3]) (t := 30) ?_; intro gb122 hg w3 hbox hb; have n_ := A4_ (below_step zqa3_ hb) (hbox) ((zqd6_ : w.heap.size ≤ gb122)) ((zqd6_ : w.heap.size ≤ gb122)); clear HB; obtain ⟨HB, BK122, GW122, GE122⟩ := n_; clear hb hbox hg; have hcz4_0 := bc0_ BK122.out; have hcz4_1 := bc1_ BK122.out; have hcz4_2 := bc2_ BK122.out; have hcz4_3 := bc3_ BK122.out; have hfz4_0 := blk_frozen BK122.out 0; have hfz4_1 := blk_frozen BK122.out 1; have hfz4_2 := blk_frozen BK122.out 2; have hfz4_3 := blk_frozen BK122.out 3))
 go_loopg [10] k (fun kq v10 w' => ∃ (x10_1 : Int), v10 = .int .i64 x10_1 ∧ Aside0 (impl_putAt.l0 kq a1 l0_1 (l0_1.length : Int) x10_1 = some r) ∧ Aside0 (kq ≤ k) ∧ Aside0 (w'.heap[gb122]? = some (.cells #[(.slice A0_0 l0_0.length c0_0), (.slice A0_1 l0_1.length c0_1), .int .i64 a0_2, .int .i64 a0_3] 30 (0, 0))) ∧ Aside0 (Below w.heap.size w w'))
 case atStart => exact ⟨(0), zq76_, H', ⟨Nat.le_refl _⟩, ⟨zq34_⟩, ⟨zq7d_⟩⟩
 case round =>
  clear H'
  try clear p2
  try clear hcz4_0 hcz4_1 hcz4_2 hcz4_3 hfz4_0 hfz4_1 hfz4_2 hfz4_3
  obtain ⟨x10_1, rfl, HA, HK1, BK122, HB⟩ := hrel
  cases gk with
  | zero => exact absurd HA.out (by simp [impl_putAt.l0])
  | succ k1 =>
   have H := HA.out
   clear HA
   simp only [impl_putAt.l0] at H
   by_cases c5 : x10_1 < (l0_1.length : Int)
   ·rw [if_pos c5] at H
    have c5b0 : decide (x10_1 < (l0_1.length : Int)) = true := decide_eq_true c5
    clear c5
    by_cases c6 : 0 ≤ x10_1
    ·rw [if_pos c6] at H
     have c6b0 : decide (0 ≤ x10_1) = true := decide_eq_true c6
     clear c6
     by_cases c7 : x10_1 < (l0_1.length : Int)
     ·rw [if_pos c7] at H
      have c7b0 : decide (x10_1 < (l0_1.length : Int)) = true := decide_eq_true c7
      clear c7
      by_cases c8 : ((rd_T36 l0_1 x10_1).f0) = a1
      ·rw [if_pos c8] at H
       have c8b0 : (((rd_T36 l0_1 x10_1).f0) == a1) = true := beq_iff_eq.mpr c8
       have c8b1 : (((rd_T36 l0_1 x10_1).f0) != a1) = false := bne_eq_false_iff_eq.mpr c8
       clear c8
       obtain rfl := Option.some.inj H
       have p123 : 0 ≤ (x10_1 : Int) := of_decide_eq_true zq71_
       have q123 : x10_1 < (l0_1.length : Int) := of_decide_eq_true zq71_
       obtain ⟨ad123, e123, hx123_0, hx123_1⟩ := at_T36 HR0_1.out x10_1 p123 q123
       cases e123
       replace hx123_0 := (HB.out.cell (World.block_lt_of_cell? w _ hx123_0)).trans hx123_0
       replace hx123_1 := (HB.out.cell (World.block_lt_of_cell? w _ hx123_1)).trans hx123_1
       replace p123 := eq_true p123
       replace q123 := eq_true q123
       go_wp2_with (first | ((with_reducible refine gate_dst (N := 6) rfl ?_); refine bxe_ (N := 6) (cs := #[.int .i64 0, .int .i64 0]) (t := 36) ?_; intro gb124 hg w9 hbox hb; have n_ := A7_ (blk_below (g := gb122) (o := .cells #[.slice A0_0 l0_0.length c0_0, .slice (some ad123) l0_1.length c0_1, .int .i64 a0_2, .int .i64 a0_3] 30 (0, 0)) zq34_ hb) (below_step zq7d_ hb) (hbox) ((by rw [hg]; exact (below_size zq7d_) : w.heap.size ≤ gb124)) ((by rw [hg]; exact (below_size zq7d_) : w.heap.size ≤ gb124)) ((zqe6_ : gb122 ≠ gb124)) ((zqd7_ : gb124 ≠ gb122)); clear BK122 HB; obtain ⟨BK122, HB, BK124, GW124, GE124, NB122_124, NB124_122⟩ := n_; clear hb hbox hg; have hnb10 := NB124_122.out; have hnc10 := NB122_124.out; have hcz11_0 := bc0_ BK124.out; have hcz11_1 := bc1_ BK124.out; have hfz11_0 := blk_frozen BK124.out 0; have hfz11_1 := blk_frozen BK124.out 1))
       go_ret
       exact ⟨zq75_, zq7c_⟩
      ·rw [if_neg c8] at H
       have c8b0 : (((rd_T36 l0_1 x10_1).f0) == a1) = false := beq_eq_false_iff_ne.mpr c8
       have c8b1 : (((rd_T36 l0_1 x10_1).f0) != a1) = true := bne_iff_ne.mpr c8
       have H' := Aside0.mk H
       clear H
       have p123 : 0 ≤ (x10_1 : Int) := of_decide_eq_true zq71_
       have q123 : x10_1 < (l0_1.length : Int) := of_decide_eq_true zq71_
       obtain ⟨ad123, e123, hx123_0, hx123_1⟩ := at_T36 HR0_1.out x10_1 p123 q123
       cases e123
       replace hx123_0 := (HB.out.cell (World.block_lt_of_cell? w _ hx123_0)).trans hx123_0
       replace hx123_1 := (HB.out.cell (World.block_lt_of_cell? w _ hx123_1)).trans hx123_1
       replace p123 := eq_true p123
       replace q123 := eq_true q123
       go_wp2_with (first | ((with_reducible refine gate_dst (N := 6) rfl ?_); refine bxe_ (N := 6) (cs := #[.int .i64 0, .int .i64 0]) (t := 36) ?_; intro gb124 hg w12 hbox hb; have n_ := A7_ (blk_below (g := gb122) (o := .cells #[.slice A0_0 l0_0.length c0_0, .slice (some ad123) l0_1.length c0_1, .int .i64 a0_2, .int .i64 a0_3] 30 (0, 0)) zq34_ hb) (below_step zq7d_ hb) (hbox) ((by rw [hg]; exact (below_size zq7d_) : w.heap.size ≤ gb124)) ((by rw [hg]; exact (below_size zq7d_) : w.heap.size ≤ gb124)) ((zqe6_ : gb122 ≠ gb124)) ((zqd7_ : gb124 ≠ gb122)); clear BK122 HB; obtain ⟨BK122, HB, BK124, GW124, GE124, NB122_124, NB124_122⟩ := n_; clear hb hbox hg; have hnb13 := NB124_122.out; have hnc13 := NB122_124.out; have hcz14_0 := bc0_ BK124.out; have hcz14_1 := bc1_ BK124.out; have hfz14_0 := blk_frozen BK124.out 0; have hfz14_1 := blk_frozen BK124.out 1))
       go_roundg k1
       case measure => have := HK1.out; omega
       case rel => exact ⟨(wrap64 (x10_1 + 1)), zq76_, H', ⟨by have := HK1.out; omega⟩, ⟨by (with_reducible repeat (first | refine blk_drewN ?_ _ | refine blk_drew ?_ | refine blk_alloc ?_ _)); refine blk_far ?_ NB122_124.out _; (with_reducible repeat (first | refine blk_drewN ?_ _ | refine blk_drew ?_ | refine blk_alloc ?_ _)); refine blk_far ?_ NB122_124.out _; (with_reducible repeat (first | refine blk_drewN ?_ _ | refine blk_drew ?_ | refine blk_alloc ?_ _)); exact BK122.out⟩, ⟨zq7c_⟩⟩
     ·rw [if_neg c7] at H
      exact absurd H (by simp)
    ·rw [if_neg c6] at H
     exact absurd H (by simp)
   ·rw [if_neg c5] at H
    have c5b0 : decide (x10_1 < (l0_1.length : Int)) = false := decide_eq_false c5
    clear c5
    obtain rfl := Option.some.inj H
    go_wp2
    go_ret
    exact ⟨zq75_, zq7d_⟩

/-! ### impl_readAt: function 62 -/
def impl_readAt.l0 : Nat → Int → List (S48) → Int → Int → Option (Int)
 | 0, _, _, _, _ => none
 | k + 1, x1, x8, x9, x10 => if x10 < x9 then (if 0 ≤ x10 then (if x10 < (x8.length : Int) then (if ((rd_T48 x8 x10).f0) = x1 then (some x10) else (impl_readAt.l0 k x1 x8 x9 (wrap64 (x10 + 1)))) else (none)) else (none)) else (some (-1))
def impl_readAt.f (k : Nat) (l0_0 : List (S48)) (l0_1 : List (S36)) (a0_2 : Int) (a0_3 : Int) (a1 : Int) : Option (Int) := impl_readAt.l0 k a1 l0_0 (l0_0.length : Int) 0
theorem impl_readAt.mono_l : ∀ k, (∀ y0 y1 y2 y3, LeO (impl_readAt.l0 k y0 y1 y2 y3) (impl_readAt.l0 (k + 1) y0 y1 y2 y3))
 | 0 => fun _ _ _ _ r h => by simp [impl_readAt.l0] at h
 | k + 1 => by
  have ih0 := impl_readAt.mono_l k
  ·intro y0 y1 y2 y3
   unfold impl_readAt.l0
   repeat' first
   | (with_reducible exact ih0 _ _ _ _)
   | (with_reducible exact LeO.refl _)
   | (with_reducible exact LeO.none _)
   | (with_reducible refine LeO.ite ?_ ?_)
   | (with_reducible refine LeO.bind ?_ (fun _ => ?_))
   | exact ih0 _ _ _ _
   | exact LeO.none _
   | refine LeO.ite ?_ ?_
   | refine LeO.bind ?_ (fun _ => ?_)
theorem impl_readAt.mono : ∀ a0 a1 a2 a3 a4 k, LeO (impl_readAt.f k a0 a1 a2 a3 a4) (impl_readAt.f (k + 1) a0 a1 a2 a3 a4) := by
 intro a0 a1 a2 a3 a4 k
 have ih0 := impl_readAt.mono_l k
 unfold impl_readAt.f
 repeat' first
   | (with_reducible exact ih0 _ _ _ _)
   | (with_reducible exact LeO.refl _)
   | (with_reducible exact LeO.none _)
   | (with_reducible refine LeO.ite ?_ ?_)
   | (with_reducible refine LeO.bind ?_ (fun _ => ?_))
   | exact ih0 _ _ _ _
   | exact LeO.none _
   | refine LeO.ite ?_ ?_
   | refine LeO.bind ?_ (fun _ => ?_)
set_option maxHeartbeats 8000000 in
set_option maxRecDepth 100000 in
theorem impl_readAt.calls (k : Nat) (A0_0 : Option Addr) (c0_0 : Nat) (l0_0 : List (S48)) (A0_1 : Option Addr) (c0_1 : Nat) (l0_1 : List (S36)) (a0_2 : Int) (a0_3 : Int) (a1 : Int) (r : Int) (w : World) (hr0_0 : Kd.C k48 w A0_0 l0_0.length l0_0) (hc0_0 : l0_0.length ≤ c0_0) (hr0_1 : Kd.C k36 w A0_1 l0_1.length l0_1) (hc0_1 : l0_1.length ≤ c0_1) (h : impl_readAt.f k l0_0 l0_1 a0_2 a0_3 a1 = some r) :
  Calls Try.prog 62 #[.agg #[.slice A0_0 l0_0.length c0_0, .slice A0_1 l0_1.length c0_1, .int .i64 a0_2, .int .i64 a0_3], .int .i64 a1] w fun e w' => e = .returned (.int .i64 r) ∧ Below w.heap.size w w' := by
 have hu30 := Try.underlying30
 have hu48 := Try.underlying48
 have HR0_0 := Aside0.mk hr0_0
 have HC0_0 := Aside0.mk hc0_0
 clear hr0_0 hc0_0
 have HR0_1 := Aside0.mk hr0_1
 have HC0_1 := Aside0.mk hc0_1
 clear hr0_1 hc0_1
 have HB := Aside0.mk (Below.refl w.heap.size w)
 have H : (impl_readAt.l0 k a1 l0_0 (l0_0.length : Int) 0) = some r := h
 clear h
 have H' := Aside0.mk H
 clear H
 go_enter Try.func62, Try.ntmps62
 go_wp2_with (first | ((with_reducible refine gate_dst (N := 2) rfl ?_); refine bxe_ (N := 2) (cs := #[.slice A0_0 l0_0.length c0_0, .slice A0_1 l0_1.length c0_1, .int .i64 a0_2, .int .i64 a0_3]) (t := 30) ?_; intro gb125 hg w3 hbox hb; have n_ := A4_ (below_step zqa3_ hb) (hbox) ((zqd6_ : w.heap.size ≤ gb125)) ((zqd6_ : w.heap.size ≤ gb125)); clear HB; obtain ⟨HB, BK125, GW125, GE125⟩ := n_; clear hb hbox hg; have hcz4_0 := bc0_ BK125.out; have hcz4_1 := bc1_ BK125.out; have hcz4_2 := bc2_ BK125.out; have hcz4_3 := bc3_ BK125.out; have hfz4_0 := blk_frozen BK125.out 0; have hfz4_1 := blk_frozen BK125.out 1; have hfz4_2 := blk_frozen BK125.out 2; have hfz4_3 := blk_frozen BK125.out 3))
 go_loopg [10] k (fun kq v10 w' => ∃ (x10_1 : Int), v10 = .int .i64 x10_1 ∧ Aside0 (impl_readAt.l0 kq a1 l0_0 (l0_0.length : Int) x10_1 = some r) ∧ Aside0 (kq ≤ k) ∧ Aside0 (w'.heap[gb125]? = some (.cells #[(.slice A0_0 l0_0.length c0_0), (.slice A0_1 l0_1.length c0_1), .int .i64 a0_2, .int .i64 a0_3] 30 (0, 0))) ∧ Aside0 (Below w.heap.size w w'))
 case atStart => exact ⟨(0), zq76_, H', ⟨Nat.le_refl _⟩, ⟨zq35_⟩, ⟨zq7f_⟩⟩
 case round =>
  clear H'
  try clear p2
  try clear hcz4_0 hcz4_1 hcz4_2 hcz4_3 hfz4_0 hfz4_1 hfz4_2 hfz4_3
  obtain ⟨x10_1, rfl, HA, HK1, BK125, HB⟩ := hrel
  cases gk with
  | zero => exact absurd HA.out (by simp [impl_readAt.l0])
  | succ k1 =>
   have H := HA.out
   clear HA
   simp only [impl_readAt.l0] at H
   by_cases c5 : x10_1 < (l0_0.length : Int)
   ·rw [if_pos c5] at H
    have c5b0 : decide (x10_1 < (l0_0.length : Int)) = true := decide_eq_true c5
    clear c5
    by_cases c6 : 0 ≤ x10_1
    ·rw [if_pos c6] at H
     have c6b0 : decide (0 ≤ x10_1) = true := decide_eq_true c6
     clear c6
     by_cases c7 : x10_1 < (l0_0.length : Int)
     ·rw [if_pos c7] at H
      have c7b0 : decide (x10_1 < (l0_0.length : Int)) = true := decide_eq_true c7
      clear c7
      by_cases c8 : ((rd_T48 l0_0 x10_1).f0) = a1
      ·rw [if_pos c8] at H
       have c8b0 : (((rd_T48 l0_0 x10_1).f0) == a1) = true := beq_iff_eq.mpr c8
       have c8b1 : (((rd_T48 l0_0 x10_1).f0) != a1) = false := bne_eq_false_iff_eq.mpr c8
       clear c8
       obtain rfl := Option.some.inj H
       have p126 : 0 ≤ (x10_1 : Int) := of_decide_eq_true zq71_
       have q126 : x10_1 < (l0_0.length : Int) := of_decide_eq_true zq71_
       obtain ⟨ad126, e126, hx126_0, hx126_1⟩ := at_T48 HR0_0.out x10_1 p126 q126
       cases e126
       replace hx126_0 := (HB.out.cell (World.block_lt_of_cell? w _ hx126_0)).trans hx126_0
       replace hx126_1 := (HB.out.cell (World.block_lt_of_cell? w _ hx126_1)).trans hx126_1
       replace p126 := eq_true p126
       replace q126 := eq_true q126
       go_wp2_with (first | ((with_reducible refine gate_dst (N := 6) rfl ?_); refine bxe_ (N := 6) (cs := #[.int .i64 0, .int .i64 0]) (t := 48) ?_; intro gb127 hg w9 hbox hb; have n_ := A7_ (blk_below (g := gb125) (o := .cells #[.slice (some ad126) l0_0.length c0_0, .slice A0_1 l0_1.length c0_1, .int .i64 a0_2, .int .i64 a0_3] 30 (0, 0)) zq35_ hb) (below_step zq7f_ hb) (hbox) ((by rw [hg]; exact (below_size zq7f_) : w.heap.size ≤ gb127)) ((by rw [hg]; exact (below_size zq7f_) : w.heap.size ≤ gb127)) ((zqe7_ : gb125 ≠ gb127)) ((zqd8_ : gb127 ≠ gb125)); clear BK125 HB; obtain ⟨BK125, HB, BK127, GW127, GE127, NB125_127, NB127_125⟩ := n_; clear hb hbox hg; have hnb10 := NB127_125.out; have hnc10 := NB125_127.out; have hcz11_0 := bc0_ BK127.out; have hcz11_1 := bc1_ BK127.out; have hfz11_0 := blk_frozen BK127.out 0; have hfz11_1 := blk_frozen BK127.out 1))
       go_ret
       exact ⟨zq75_, zq7e_⟩
      ·rw [if_neg c8] at H
       have c8b0 : (((rd_T48 l0_0 x10_1).f0) == a1) = false := beq_eq_false_iff_ne.mpr c8
       have c8b1 : (((rd_T48 l0_0 x10_1).f0) != a1) = true := bne_iff_ne.mpr c8
       have H' := Aside0.mk H
       clear H
       have p126 : 0 ≤ (x10_1 : Int) := of_decide_eq_true zq71_
       have q126 : x10_1 < (l0_0.length : Int) := of_decide_eq_true zq71_
       obtain ⟨ad126, e126, hx126_0, hx126_1⟩ := at_T48 HR0_0.out x10_1 p126 q126
       cases e126
       replace hx126_0 := (HB.out.cell (World.block_lt_of_cell? w _ hx126_0)).trans hx126_0
       replace hx126_1 := (HB.out.cell (World.block_lt_of_cell? w _ hx126_1)).trans hx126_1
       replace p126 := eq_true p126
       replace q126 := eq_true q126
       go_wp2_with (first | ((with_reducible refine gate_dst (N := 6) rfl ?_); refine bxe_ (N := 6) (cs := #[.int .i64 0, .int .i64 0]) (t := 48) ?_; intro gb127 hg w12 hbox hb; have n_ := A7_ (blk_below (g := gb125) (o := .cells #[.slice (some ad126) l0_0.length c0_0, .slice A0_1 l0_1.length c0_1, .int .i64 a0_2, .int .i64 a0_3] 30 (0, 0)) zq35_ hb) (below_step zq7f_ hb) (hbox) ((by rw [hg]; exact (below_size zq7f_) : w.heap.size ≤ gb127)) ((by rw [hg]; exact (below_size zq7f_) : w.heap.size ≤ gb127)) ((zqe7_ : gb125 ≠ gb127)) ((zqd8_ : gb127 ≠ gb125)); clear BK125 HB; obtain ⟨BK125, HB, BK127, GW127, GE127, NB125_127, NB127_125⟩ := n_; clear hb hbox hg; have hnb13 := NB127_125.out; have hnc13 := NB125_127.out; have hcz14_0 := bc0_ BK127.out; have hcz14_1 := bc1_ BK127.out; have hfz14_0 := blk_frozen BK127.out 0; have hfz14_1 := blk_frozen BK127.out 1))
       go_roundg k1
       case measure => have := HK1.out; omega
       case rel => exact ⟨(wrap64 (x10_1 + 1)), zq76_, H', ⟨by have := HK1.out; omega⟩, ⟨by (with_reducible repeat (first | refine blk_drewN ?_ _ | refine blk_drew ?_ | refine blk_alloc ?_ _)); refine blk_far ?_ NB125_127.out _; (with_reducible repeat (first | refine blk_drewN ?_ _ | refine blk_drew ?_ | refine blk_alloc ?_ _)); refine blk_far ?_ NB125_127.out _; (with_reducible repeat (first | refine blk_drewN ?_ _ | refine blk_drew ?_ | refine blk_alloc ?_ _)); exact BK125.out⟩, ⟨zq7e_⟩⟩
     ·rw [if_neg c7] at H
      exact absurd H (by simp)
    ·rw [if_neg c6] at H
     exact absurd H (by simp)
   ·rw [if_neg c5] at H
    have c5b0 : decide (x10_1 < (l0_0.length : Int)) = false := decide_eq_false c5
    clear c5
    obtain rfl := Option.some.inj H
    go_wp2
    go_ret
    exact ⟨zq75_, zq7f_⟩

/-! ### impl_copied_impl_Read: function 63 -/
def impl_copied_impl_Read.f (l0 : List (S48)) : Option (List (S48)) := if l0.length ≤ 17592186044416 then some l0 else none
set_option maxHeartbeats 8000000 in
set_option maxRecDepth 100000 in
theorem impl_copied_impl_Read.calls (A0 : Option Addr) (c0 : Nat) (l0 : List (S48)) (r : List (S48)) (w : World) (hr0 : Kd.C k48 w A0 l0.length l0) (hc0 : l0.length ≤ c0) (h : impl_copied_impl_Read.f l0 = some r) :
  Calls Try.prog 63 #[.slice A0 l0.length c0] w fun e w' => ∃ v0_ : Value, e = .returned (v0_) ∧ Kd.R k48 48 w' w.heap.size (fun _ => True) v0_ r ∧ Below w.heap.size w w' := by
 unfold impl_copied_impl_Read.f at h
 by_cases hl_ : l0.length ≤ 17592186044416
 ·rw [if_pos hl_] at h
  obtain rfl := Option.some.inj h
  clear h
  have HL_ := Aside0.mk hl_
  by_cases h0_ : l0.length = 0
  ·obtain rfl : l0 = [] := List.eq_nil_of_length_eq_zero h0_
   clear hr0 hc0 hl_ HL_ h0_
   go_enter Try.func63, Try.ntmps63
   go_wp2
   go_ret
   exact ⟨_, rfl, Kd.R_nil _ _ _ _ _, Below.refl _ _⟩
  ·have hb0 : ((l0.length : Int) == 0) = false := beq_eq_false_iff_ne.mpr (by omega)
   have hb1 : (l0.length == 0) = false := beq_eq_false_iff_ne.mpr h0_
   have HP_ := Aside0.mk (Nat.pos_of_ne_zero h0_)
   have hi0 : (0 : Int) ≤ (l0.length : Int) := Int.natCast_nonneg _
   have HR_ := Aside0.mk hr0
   have HC_ := Aside0.mk hc0
   clear hr0 hc0 hl_ h0_
   go_enter Try.func63, Try.ntmps63
   go_wp2_with (first | ((with_reducible refine gate_dst (N := 9) rfl ?_); refine Kd.R_make k48 _ 48 rfl (N := 9) rfl 27 _ _ rfl (l0.length : Int) rfl rfl Try.underlying27 (.agg #[(.int .i64 0), (.int .i64 0)]) 16 info48 rfl (by decide) (by omega) z48 (ok := fun _ => True) (okp := fun _ => True) (k48_mkM _ _ _ z48) (fun _ hk => hk) trivial (by omega) (by have := HL_.out; omega) (Below.refl _ _) (Nat.le_refl _) ?_; intro v101 w2 ho3 hb hg_ hnew_; clear hg_ hnew_; have HO_ := Aside0.mk ho3; have HB_ := Aside0.mk hb; clear ho3 hb) | ((with_reducible refine gate_dst (N := 12) rfl ?_); refine copy_event k48 _ rfl (N := 12) rfl (.tmp 10) (.tmp 11) 27 27 48 rfl Try.underlying27 (by have h_ := info48; obtain ⟨i0, hi, hzz⟩ := Option.map_eq_some_iff.1 h_; simp only [Prod.mk.injEq] at hzz; rw [hi]; exact congrArg some hzz.2.1) (by decide) _ _ l0 A0 c0 (fun _ => True) rfl rfl HO_.out (Kd.C_below HR_.out HB_.out) (by simp) HP_.out (fun w' x cs h_ w1 b1 o1 => by obtain rfl := k48_open h_; exact k48_mkM _ _ _ x) HB_.out ?_; intro w3 ho4 hb; have HO2_ := Aside0.mk ho4; have HB2_ := Aside0.mk hb; clear ho4 hb))
   go_ret
   exact ⟨_, rfl, HO2_.out, HB2_.out⟩
 ·rw [if_neg hl_] at h
  cases h

/-! ### impl_copied_impl_Put: function 65 -/
def impl_copied_impl_Put.f (l0 : List (S36)) : Option (List (S36)) := if l0.length ≤ 17592186044416 then some l0 else none
set_option maxHeartbeats 8000000 in
set_option maxRecDepth 100000 in
theorem impl_copied_impl_Put.calls (A0 : Option Addr) (c0 : Nat) (l0 : List (S36)) (r : List (S36)) (w : World) (hr0 : Kd.C k36 w A0 l0.length l0) (hc0 : l0.length ≤ c0) (h : impl_copied_impl_Put.f l0 = some r) :
  Calls Try.prog 65 #[.slice A0 l0.length c0] w fun e w' => ∃ v0_ : Value, e = .returned (v0_) ∧ Kd.R k36 36 w' w.heap.size (fun _ => True) v0_ r ∧ Below w.heap.size w w' := by
 unfold impl_copied_impl_Put.f at h
 by_cases hl_ : l0.length ≤ 17592186044416
 ·rw [if_pos hl_] at h
  obtain rfl := Option.some.inj h
  clear h
  have HL_ := Aside0.mk hl_
  by_cases h0_ : l0.length = 0
  ·obtain rfl : l0 = [] := List.eq_nil_of_length_eq_zero h0_
   clear hr0 hc0 hl_ HL_ h0_
   go_enter Try.func65, Try.ntmps65
   go_wp2
   go_ret
   exact ⟨_, rfl, Kd.R_nil _ _ _ _ _, Below.refl _ _⟩
  ·have hb0 : ((l0.length : Int) == 0) = false := beq_eq_false_iff_ne.mpr (by omega)
   have hb1 : (l0.length == 0) = false := beq_eq_false_iff_ne.mpr h0_
   have HP_ := Aside0.mk (Nat.pos_of_ne_zero h0_)
   have hi0 : (0 : Int) ≤ (l0.length : Int) := Int.natCast_nonneg _
   have HR_ := Aside0.mk hr0
   have HC_ := Aside0.mk hc0
   clear hr0 hc0 hl_ h0_
   go_enter Try.func65, Try.ntmps65
   go_wp2_with (first | ((with_reducible refine gate_dst (N := 9) rfl ?_); refine Kd.R_make k36 _ 36 rfl (N := 9) rfl 28 _ _ rfl (l0.length : Int) rfl rfl Try.underlying28 (.agg #[(.int .i64 0), (.int .i64 0)]) 16 info36 rfl (by decide) (by omega) z36 (ok := fun _ => True) (okp := fun _ => True) (k36_mkM _ _ _ z36) (fun _ hk => hk) trivial (by omega) (by have := HL_.out; omega) (Below.refl _ _) (Nat.le_refl _) ?_; intro v101 w2 ho3 hb hg_ hnew_; clear hg_ hnew_; have HO_ := Aside0.mk ho3; have HB_ := Aside0.mk hb; clear ho3 hb) | ((with_reducible refine gate_dst (N := 12) rfl ?_); refine copy_event k36 _ rfl (N := 12) rfl (.tmp 10) (.tmp 11) 28 28 36 rfl Try.underlying28 (by have h_ := info36; obtain ⟨i0, hi, hzz⟩ := Option.map_eq_some_iff.1 h_; simp only [Prod.mk.injEq] at hzz; rw [hi]; exact congrArg some hzz.2.1) (by decide) _ _ l0 A0 c0 (fun _ => True) rfl rfl HO_.out (Kd.C_below HR_.out HB_.out) (by simp) HP_.out (fun w' x cs h_ w1 b1 o1 => by obtain rfl := k36_open h_; exact k36_mkM _ _ _ x) HB_.out ?_; intro w3 ho4 hb; have HO2_ := Aside0.mk ho4; have HB2_ := Aside0.mk hb; clear ho4 hb))
   go_ret
   exact ⟨_, rfl, HO2_.out, HB2_.out⟩
 ·rw [if_neg hl_] at h
  cases h

end Go.Proofs.Ytgdafcakefnpdaa.PFnExactExecRun

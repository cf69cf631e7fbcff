-- Laid by this session's program out of the translation (gen.sh).
import Derived.Test.YtbocpmlppkdhmaaPFnExactCertOkx0
import Derived.Test.YtbocpmlppkdhmaaPFnExactCertOkx4
namespace Go.Proofs.Ytbocpmlppkdhmaa.PFnExactCertOk
open Go.RowKit Go.Proofs.YtbocpmlppkdhmaaW.PrintWords Go.Proofs.YtbocpmlppkdhmaaW.PrintLast Go.Proofs.YtbocpmlppkdhmaaW.PrintMore
attribute [local go_sem] max2_int min2_int max_two min_two max_three min_three max_four min_four   -- for this text's walks alone
set_option linter.unusedVariables false
set_option linter.unusedSimpArgs false

/-! ### impl_CertOk: function 35 -/
mutual
def impl_CertOk.l0 : Nat → List (S104) → Int → Int → Int → List (S96) → List (S104) → Option (Bool)
 | 0, _, _, _, _, _, _ => none
 | k + 1, x6, x7, x8, x178000, x178001, x178002 => if x8 < x7 then (if 0 ≤ x8 then (if x8 < (x6.length : Int) then (if x8 > 0 then (if 0 ≤ (wrap64 (x8 - 1)) then (if (wrap64 (x8 - 1)) < (x178002.length : Int) then (if ((rd_T104 x178002 (wrap64 (x8 - 1))).f0.f0) ≥ ((rd_T104 x6 x8).f0.f0) then (impl_CertOk.j1 k x6 x7 x8 true x178000 x178001 x178002) else ((impl_reqOk.f ((rd_T104 x6 x8).f0.f0) ((rd_T104 x6 x8).f0.f1)).bind fun t181 => (if t181 = true then ((impl_in.f ((rd_T104 x6 x8).f1) 0 2).bind fun t182 => (if t182 = true then ((impl_in.f ((rd_T104 x6 x8).f2) (-1000000) 1000000).bind fun t183 => (if t183 = true then (if ((rd_T104 x6 x8).f1) = 0 then (impl_CertOk.j1 k x6 x7 x8 false x178000 x178001 x178002) else (impl_CertOk.j1 k x6 x7 x8 (((rd_T104 x6 x8).f2) != 0) x178000 x178001 x178002)) else (impl_CertOk.j1 k x6 x7 x8 true x178000 x178001 x178002))) else (impl_CertOk.j1 k x6 x7 x8 true x178000 x178001 x178002))) else (impl_CertOk.j1 k x6 x7 x8 true x178000 x178001 x178002)))) else (none)) else (none)) else ((impl_reqOk.f ((rd_T104 x6 x8).f0.f0) ((rd_T104 x6 x8).f0.f1)).bind fun t184 => (if t184 = true then ((impl_in.f ((rd_T104 x6 x8).f1) 0 2).bind fun t185 => (if t185 = true then ((impl_in.f ((rd_T104 x6 x8).f2) (-1000000) 1000000).bind fun t186 => (if t186 = true then (if ((rd_T104 x6 x8).f1) = 0 then (impl_CertOk.j1 k x6 x7 x8 false x178000 x178001 x178002) else (impl_CertOk.j1 k x6 x7 x8 (((rd_T104 x6 x8).f2) != 0) x178000 x178001 x178002)) else (impl_CertOk.j1 k x6 x7 x8 true x178000 x178001 x178002))) else (impl_CertOk.j1 k x6 x7 x8 true x178000 x178001 x178002))) else (impl_CertOk.j1 k x6 x7 x8 true x178000 x178001 x178002)))) else (none)) else (none)) else ((impl_in.f x178000 0 40).bind fun t187 => (if t187 = true then ((impl_BoxOk.f k x178001).bind fun t188 => (some t188)) else (some false)))
def impl_CertOk.j1 : Nat → List (S104) → Int → Int → Bool → Int → List (S96) → List (S104) → Option (Bool)
 | 0, _, _, _, _, _, _, _ => none
 | k + 1, x6, x7, x8, x56, x178000, x178001, x178002 => if x56 = true then (some false) else (impl_CertOk.l0 k x6 x7 (wrap64 (x8 + 1)) x178000 x178001 x178002)
end
def impl_CertOk.f (k : Nat) (a0_0 : Int) (l0_1 : List (S96)) (l0_2 : List (S104)) : Option (Bool) := impl_CertOk.l0 k l0_2 (l0_2.length : Int) 0 a0_0 l0_1 l0_2
theorem impl_CertOk.mono_l : ∀ k, (∀ y0 y1 y2 y3 y4 y5, LeO (impl_CertOk.l0 k y0 y1 y2 y3 y4 y5) (impl_CertOk.l0 (k + 1) y0 y1 y2 y3 y4 y5)) ∧ (∀ y0 y1 y2 y3 y4 y5 y6, LeO (impl_CertOk.j1 k y0 y1 y2 y3 y4 y5 y6) (impl_CertOk.j1 (k + 1) y0 y1 y2 y3 y4 y5 y6))
 | 0 => ⟨fun _ _ _ _ _ _ r h => by simp [impl_CertOk.l0] at h, fun _ _ _ _ _ _ _ r h => by simp [impl_CertOk.j1] at h⟩
 | k + 1 => by
  obtain ⟨ih0, ih1⟩ := impl_CertOk.mono_l k
  refine ⟨?_, ?_⟩
  ·intro y0 y1 y2 y3 y4 y5
   unfold impl_CertOk.l0
   repeat' first
   | (with_reducible exact ih0 _ _ _ _ _ _)
   | (with_reducible exact ih1 _ _ _ _ _ _ _)
   | (with_reducible exact impl_BoxOk.mono _ _)
   | (with_reducible exact LeO.refl _)
   | (with_reducible exact LeO.none _)
   | (with_reducible refine LeO.ite ?_ ?_)
   | (with_reducible refine LeO.bind ?_ (fun _ => ?_))
   | exact ih0 _ _ _ _ _ _
   | exact ih1 _ _ _ _ _ _ _
   | exact impl_BoxOk.mono _ _
   | exact LeO.none _
   | refine LeO.ite ?_ ?_
   | refine LeO.bind ?_ (fun _ => ?_)
  ·intro y0 y1 y2 y3 y4 y5 y6
   unfold impl_CertOk.j1
   repeat' first
   | (with_reducible exact ih0 _ _ _ _ _ _)
   | (with_reducible exact ih1 _ _ _ _ _ _ _)
   | (with_reducible exact impl_BoxOk.mono _ _)
   | (with_reducible exact LeO.refl _)
   | (with_reducible exact LeO.none _)
   | (with_reducible refine LeO.ite ?_ ?_)
   | (with_reducible refine LeO.bind ?_ (fun _ => ?_))
   | exact ih0 _ _ _ _ _ _
   | exact ih1 _ _ _ _ _ _ _
   | exact impl_BoxOk.mono _ _
   | exact LeO.none _
   | refine LeO.ite ?_ ?_
   | refine LeO.bind ?_ (fun _ => ?_)
theorem impl_CertOk.mono : ∀ a0 a1 a2 k, LeO (impl_CertOk.f k a0 a1 a2) (impl_CertOk.f (k + 1) a0 a1 a2) := by
 intro a0 a1 a2 k
 obtain ⟨ih0, ih1⟩ := impl_CertOk.mono_l k
 unfold impl_CertOk.f
 repeat' first
   | (with_reducible exact ih0 _ _ _ _ _ _)
   | (with_reducible exact ih1 _ _ _ _ _ _ _)
   | (with_reducible exact impl_BoxOk.mono _ _)
   | (with_reducible exact LeO.refl _)
   | (with_reducible exact LeO.none _)
   | (with_reducible refine LeO.ite ?_ ?_)
   | (with_reducible refine LeO.bind ?_ (fun _ => ?_))
   | exact ih0 _ _ _ _ _ _
   | exact ih1 _ _ _ _ _ _ _
   | exact impl_BoxOk.mono _ _
   | exact LeO.none _
   | refine LeO.ite ?_ ?_
   | refine LeO.bind ?_ (fun _ => ?_)
def impl_CertOk.T4 : Bool × List (List Nat × List Nat) := (true, [([], []), ([0], [0]), ([1], [1]), ([2], [2]), ([3, 2], [2, 3]), ([2], [2]), ([5, 2], [2, 5]), ([4, 6, 2], [2, 4, 6]), ([7, 2], [2, 7]), ([8, 2], [2, 8]), ([9, 2], [2, 9]), ([2], [2]), ([11, 2], [2, 11]), ([12, 2], [2, 12]), ([10, 13, 2], [2, 10, 13]), ([2, 14], [2, 14]), ([15, 2], [15]), ([16], [16]), ([17, 16], [16, 17]), ([18, 16, 16], [16, 18]), ([19, 16], [16, 19]), ([16, 20], [16, 20]), ([21, 19], [21]), ([22], [22]), ([23, 22], [22, 23]), ([24, 22, 22], [22, 24]), ([25, 22], [22, 25]), ([22, 26], [22, 26]), ([27, 25], [27]), ([28], [28]), ([29, 28], [28, 29]), ([30, 28, 28], [28, 30]), ([31, 28], [28, 31]), ([28, 32], [28, 32]), ([33, 31], [33]), ([34], [34]), ([35, 34], [34, 35]), ([36, 34], [34, 36]), ([37, 34, 34], [34, 37]), ([38], [38]), ([39, 38], [38, 39]), ([40, 38], [38, 40]), ([38, 41, 34], [34, 38, 41]), ([34, 42], [34, 42])])
def impl_CertOk.B4 : List Nat := [0, 1, 3, 7, 15, 7, 39, 127, 255, 511, 1023, 7, 2055, 6151, 16383, 32767, 65535, 131071, 262143, 524287, 1048575, 2097151, 4194303, 8388607, 16777215, 33554431, 67108863, 134217727, 268435455, 536870911, 1073741823, 2147483647, 4294967295, 8589934591, 17179869183, 34359738367, 68719476735, 137438953471, 274877906943, 549755813887, 1099511627775, 2199023255551, 4398046511103, 8796093022207]
theorem impl_CertOk.tab4 : rtab .any (opsOf Try.f35 4) = impl_CertOk.T4 := by kernel_rfl
theorem impl_CertOk.bits4 : waitsOk impl_CertOk.T4.2 impl_CertOk.B4 = true := by kernel_rfl
set_option maxHeartbeats 8000000 in
set_option maxRecDepth 100000 in
theorem impl_CertOk.calls (k : Nat) (a0_0 : Int) (A0_1 : Option Addr) (c0_1 : Nat) (l0_1 : List (S96)) (A0_2 : Option Addr) (c0_2 : Nat) (l0_2 : List (S104)) (r : Bool) (w : World) (hr0_1 : Kd.C k96 w A0_1 l0_1.length l0_1) (hc0_1 : l0_1.length ≤ c0_1) (hr0_2 : Kd.C k104 w A0_2 l0_2.length l0_2) (hc0_2 : l0_2.length ≤ c0_2) (h : impl_CertOk.f k a0_0 l0_1 l0_2 = some r) :
  Calls Try.prog 35 #[.agg #[.int .i64 a0_0, .slice A0_1 l0_1.length c0_1, .slice A0_2 l0_2.length c0_2]] w fun e w' => e = .returned (.bool r) ∧ Below w.heap.size w w' := by
 have hu25 := Try.underlying25
 have hu104 := Try.underlying104
 have hu67 := Try.underlying67
 have HR0_1 := Aside0.mk hr0_1
 have HC0_1 := Aside0.mk hc0_1
 clear hr0_1 hc0_1
 have HR0_2 := Aside0.mk hr0_2
 have HC0_2 := Aside0.mk hc0_2
 clear hr0_2 hc0_2
 have HB := Aside0.mk (Below.refl w.heap.size w)
 have H : (impl_CertOk.l0 k l0_2 (l0_2.length : Int) 0 a0_0 l0_1 l0_2) = some r := h
 clear h
 have H' := Aside0.mk H
 clear H
 go_enter Try.func35, Try.ntmps35
 go_wp2_with (first | ((with_reducible refine gate_dst (N := 1) rfl ?_); refine box_event ?hg (N := 1) ?hd (cs := #[.int .i64 a0_0, .slice A0_1 l0_1.length c0_1, .slice A0_2 l0_2.length c0_2]) (t := 25) ?hr ?_; (case hd => rfl); (case hg => rfl); (case hr => first | (go_simp; done) | (go_simp; rfl)); intro gb177 hg w2 hbox hb; have n0_ := Aside0.mk (below_step (by repeat (first | (with_reducible first | exact HB.out | apply below_alloc | apply pw_below_drewN | apply below_drew1) | exact HB.out)) hb); have n1_ := Aside0.mk (hbox); have n2_ := Aside0.mk ((by rw [hg]; exact (below_size (by repeat (first | (with_reducible first | exact HB.out | apply below_alloc | apply pw_below_drewN | apply below_drew1) | exact HB.out))) : w.heap.size ≤ gb177)); have n3_ := Aside0.mk ((by rw [hg]; exact (below_size (by repeat (first | (with_reducible first | exact HB.out | apply below_alloc | apply pw_below_drewN | apply below_drew1) | exact HB.out))) : w.heap.size ≤ gb177)); clear HB; have HB := n0_; have BK177 := n1_; have GW177 := n2_; have GE177 := n3_; clear n0_ n1_ n2_ n3_; clear hb hbox hg; have hcz3_0 : w2.cell? ⟨gb177, 0, none⟩ = some (.int .i64 a0_0) := (blk_cell BK177.out 0).trans rfl; have hcz3_1 : w2.cell? ⟨gb177, 1, none⟩ = some (.slice A0_1 l0_1.length c0_1) := (blk_cell BK177.out 1).trans rfl; have hcz3_2 : w2.cell? ⟨gb177, 2, none⟩ = some (.slice A0_2 l0_2.length c0_2) := (blk_cell BK177.out 2).trans rfl; have hfz3_0 := blk_frozen BK177.out 0; have hfz3_1 := blk_frozen BK177.out 1; have hfz3_2 := blk_frozen BK177.out 2))
 go_loopg [8] k (fun kq v8 w' => ∃ (x8_1 : Int), v8 = .int .i64 x8_1 ∧ Aside0 (impl_CertOk.l0 kq l0_2 (l0_2.length : Int) x8_1 a0_0 l0_1 l0_2 = some r) ∧ Aside0 (kq ≤ k) ∧ Aside0 (w'.heap[gb177]? = some (.cells #[.int .i64 a0_0, (.slice A0_1 l0_1.length c0_1), (.slice A0_2 l0_2.length c0_2)] 25 (0, 0))) ∧ Aside0 (Below w.heap.size w w'))
 case atStart => exact ⟨(0), (by first | rfl | (simp; done) | (simp [*]; done)), H', ⟨Nat.le_refl _⟩, ⟨by (with_reducible repeat (first | refine blk_drewN ?_ _ | refine blk_drew ?_ | refine blk_alloc ?_ _)); exact BK177.out⟩, ⟨by repeat (first | (with_reducible first | exact HB.out | apply below_alloc | apply pw_below_drewN | apply below_drew1 | refine below_set ?_ GE177.out) | exact HB.out)⟩⟩
 case round =>
  clear H'
  try clear p2
  try clear c3
  try clear hcz3_0
  try clear hcz3_1
  try clear hcz3_2
  try clear hfz3_0
  try clear hfz3_1
  try clear hfz3_2
  obtain ⟨x8_1, rfl, HA, HK1, BK177, HB⟩ := hrel
  cases gk with
  | zero => exact absurd HA.out (by simp [impl_CertOk.l0])
  | succ k1 =>
   have H := HA.out
   clear HA
   simp only [impl_CertOk.l0] at H
   by_cases c4 : x8_1 < (l0_2.length : Int)
   ·rw [if_pos c4] at H
    have c4b0 : decide (x8_1 < (l0_2.length : Int)) = true := decide_eq_true c4
    clear c4
    by_cases c5 : 0 ≤ x8_1
    ·rw [if_pos c5] at H
     have c5b0 : decide (0 ≤ x8_1) = true := decide_eq_true c5
     clear c5
     by_cases c6 : x8_1 < (l0_2.length : Int)
     ·rw [if_pos c6] at H
      have c6b0 : decide (x8_1 < (l0_2.length : Int)) = true := decide_eq_true c6
      clear c6
      have HC7 := Aside0.mk H
      clear H
      have p178 : 0 ≤ (x8_1 : Int) := of_decide_eq_true (by first | (with_reducible assumption) | assumption)
      have q178 : x8_1 < (l0_2.length : Int) := of_decide_eq_true (by first | (with_reducible assumption) | assumption)
      obtain ⟨ad178, e178, hx178_0, hx178_1, hx178_2, hx178_3⟩ := at_T104 HR0_2.out x8_1 p178 q178
      cases e178
      replace hx178_0 := (HB.out.cell (World.block_lt_of_cell? w _ hx178_0)).trans hx178_0
      replace hx178_1 := (HB.out.cell (World.block_lt_of_cell? w _ hx178_1)).trans hx178_1
      replace hx178_2 := (HB.out.cell (World.block_lt_of_cell? w _ hx178_2)).trans hx178_2
      replace hx178_3 := (HB.out.cell (World.block_lt_of_cell? w _ hx178_3)).trans hx178_3
      replace p178 := eq_true p178
      replace q178 := eq_true q178
      go_upto_region 4 with (first | ((with_reducible refine gate_dst (N := 4) rfl ?_); refine box_event ?hg (N := 4) ?hd (cs := #[.int .i64 0, .int .i64 0, .int .i64 0, .int .i64 0]) (t := 104) ?hr ?_; (case hd => rfl); (case hg => rfl); (case hr => first | (go_simp; done) | (go_simp; rfl)); intro gb179 hg w8 hbox hb; have n0_ := Aside0.mk (blk_below (g := gb177) (o := .cells #[.int .i64 a0_0, .slice A0_1 l0_1.length c0_1, .slice (some ad178) l0_2.length c0_2] 25 (0, 0)) (by (with_reducible repeat (first | refine blk_drewN ?_ _ | refine blk_drew ?_ | refine blk_alloc ?_ _)); exact BK177.out) hb); have n1_ := Aside0.mk (below_step (by repeat (first | (with_reducible first | exact HB.out | apply below_alloc | apply pw_below_drewN | apply below_drew1 | refine below_set ?_ GE177.out) | exact HB.out)) hb); have n2_ := Aside0.mk (hbox); have n3_ := Aside0.mk ((by rw [hg]; exact (below_size (by repeat (first | (with_reducible first | exact HB.out | apply below_alloc | apply pw_below_drewN | apply below_drew1 | refine below_set ?_ GE177.out) | exact HB.out))) : w.heap.size ≤ gb179)); have n4_ := Aside0.mk ((by rw [hg]; exact (below_size (by repeat (first | (with_reducible first | exact HB.out | apply below_alloc | apply pw_below_drewN | apply below_drew1 | refine below_set ?_ GE177.out) | exact HB.out))) : w.heap.size ≤ gb179)); have n5_ := Aside0.mk ((by rw [hg]; exact Nat.ne_of_lt (blk_lt (g := gb177) (o := .cells #[.int .i64 a0_0, .slice A0_1 l0_1.length c0_1, .slice (some ad178) l0_2.length c0_2] 25 (0, 0)) (by (with_reducible repeat (first | refine blk_drewN ?_ _ | refine blk_drew ?_ | refine blk_alloc ?_ _)); exact BK177.out)) : gb177 ≠ gb179)); have n6_ := Aside0.mk ((by rw [hg]; exact Nat.ne_of_gt (blk_lt (g := gb177) (o := .cells #[.int .i64 a0_0, .slice A0_1 l0_1.length c0_1, .slice (some ad178) l0_2.length c0_2] 25 (0, 0)) (by (with_reducible repeat (first | refine blk_drewN ?_ _ | refine blk_drew ?_ | refine blk_alloc ?_ _)); exact BK177.out)) : gb179 ≠ gb177)); clear BK177; clear HB; have BK177 := n0_; have HB := n1_; have BK179 := n2_; have GW179 := n3_; have GE179 := n4_; have NB177_179 := n5_; have NB179_177 := n6_; clear n0_ n1_ n2_ n3_ n4_ n5_ n6_; clear hb hbox hg; have hnb9 := NB179_177.out; have hnc9 := NB177_179.out; have hcz10_0 : w8.cell? ⟨gb179, 0, none⟩ = some (.int .i64 0) := (blk_cell BK179.out 0).trans rfl; have hcz10_1 : w8.cell? ⟨gb179, 1, none⟩ = some (.int .i64 0) := (blk_cell BK179.out 1).trans rfl; have hcz10_2 : w8.cell? ⟨gb179, 2, none⟩ = some (.int .i64 0) := (blk_cell BK179.out 2).trans rfl; have hcz10_3 : w8.cell? ⟨gb179, 3, none⟩ = some (.int .i64 0) := (blk_cell BK179.out 3).trans rfl; have hfz10_0 := blk_frozen BK179.out 0; have hfz10_1 := blk_frozen BK179.out 1; have hfz10_2 := blk_frozen BK179.out 2; have hfz10_3 := blk_frozen BK179.out 3))
      (try simp only [Act.put, List.setIfInBounds_toArray, List.set_cons_zero, List.set_cons_succ])
      go_cut [56] (fun v56 wc => ∃ (kq : Nat) (x56_6 : Bool), v56 = .bool x56_6 ∧ Aside0 (impl_CertOk.j1 kq l0_2 (l0_2.length : Int) x8_1 x56_6 a0_0 l0_1 l0_2 = some r) ∧ Aside0 (kq ≤ k1) ∧ Aside0 (wc.heap[gb177]? = some (.cells #[.int .i64 a0_0, (.slice A0_1 l0_1.length c0_1), (.slice (some ad178) l0_2.length c0_2)] 25 (0, 0))) ∧ Aside0 (wc.heap[gb179]? = some (.cells #[.int .i64 ((rd_T104 l0_2 x8_1).f0.f0), .int .i64 ((rd_T104 l0_2 x8_1).f0.f1), .int .i64 ((rd_T104 l0_2 x8_1).f1), .int .i64 ((rd_T104 l0_2 x8_1).f2)] 104 (0, 0))) ∧ Aside0 (Below w.heap.size w wc))
      case first =>
       have H := HC7.out
       clear HC7
       by_cases c11 : x8_1 > 0
       ·rw [if_pos c11] at H
        have c11b0 : decide (0 < x8_1) = true := decide_eq_true c11
        clear c11
        (first | rw [c11b0] | (simp only [i64_w, i32_w]; rw [c11b0]) | skip)
        obtain ⟨ji12, hji12⟩ : ∃ j_ : Int, (wrap64 (x8_1 - 1)) = j_ := ⟨_, rfl⟩
        replace H : (if 0 ≤ (ji12) then (if (ji12) < (l0_2.length : Int) then (if ((rd_T104 l0_2 (ji12)).f0.f0) ≥ ((rd_T104 l0_2 x8_1).f0.f0) then (impl_CertOk.j1 k1 l0_2 (l0_2.length : Int) x8_1 true a0_0 l0_1 l0_2) else ((impl_reqOk.f ((rd_T104 l0_2 x8_1).f0.f0) ((rd_T104 l0_2 x8_1).f0.f1)).bind fun t181 => (if t181 = true then ((impl_in.f ((rd_T104 l0_2 x8_1).f1) 0 2).bind fun t182 => (if t182 = true then ((impl_in.f ((rd_T104 l0_2 x8_1).f2) (-1000000) 1000000).bind fun t183 => (if t183 = true then (if ((rd_T104 l0_2 x8_1).f1) = 0 then (impl_CertOk.j1 k1 l0_2 (l0_2.length : Int) x8_1 false a0_0 l0_1 l0_2) else (impl_CertOk.j1 k1 l0_2 (l0_2.length : Int) x8_1 (((rd_T104 l0_2 x8_1).f2) != 0) a0_0 l0_1 l0_2)) else (impl_CertOk.j1 k1 l0_2 (l0_2.length : Int) x8_1 true a0_0 l0_1 l0_2))) else (impl_CertOk.j1 k1 l0_2 (l0_2.length : Int) x8_1 true a0_0 l0_1 l0_2))) else (impl_CertOk.j1 k1 l0_2 (l0_2.length : Int) x8_1 true a0_0 l0_1 l0_2)))) else (none)) else (none)) = some r := by first | (rw [hji12] at H; exact H) | (simp only [hji12] at H ⊢; exact H)
        have hji12w : (IntKind.i64.wrap (x8_1 - 1)) = ji12 := (i64_w _).trans hji12
        by_cases c13 : 0 ≤ (ji12)
        ·rw [if_pos c13] at H
         have c13b0 : decide (0 ≤ (ji12)) = true := decide_eq_true c13
         clear c13
         by_cases c14 : (ji12) < (l0_2.length : Int)
         ·rw [if_pos c14] at H
          have c14b0 : decide ((ji12) < (l0_2.length : Int)) = true := decide_eq_true c14
          clear c14
          by_cases c15 : ((rd_T104 l0_2 (ji12)).f0.f0) ≥ ((rd_T104 l0_2 x8_1).f0.f0)
          ·rw [if_pos c15] at H
           have c15b0 : decide (((rd_T104 l0_2 x8_1).f0.f0) ≤ ((rd_T104 l0_2 (ji12)).f0.f0)) = true := decide_eq_true c15
           clear c15
           have H' := Aside0.mk H
           clear H
           try go_wp2
           have n0_ : Aside0 (((((w8.setCell ⟨gb179, 0, none⟩ (.int .i64 ((rd_T104 l0_2 x8_1).f0.f0))).setCell ⟨gb179, 1, none⟩ (.int .i64 ((rd_T104 l0_2 x8_1).f0.f1))).setCell ⟨gb179, 2, none⟩ (.int .i64 ((rd_T104 l0_2 x8_1).f1))).setCell ⟨gb179, 3, none⟩ (.int .i64 ((rd_T104 l0_2 x8_1).f2))).heap[gb177]? = some (.cells #[.int .i64 a0_0, .slice A0_1 l0_1.length c0_1, .slice (some ad178) l0_2.length c0_2] 25 (0, 0))) := ⟨by (with_reducible repeat (first | refine blk_drewN ?_ _ | refine blk_drew ?_ | refine blk_alloc ?_ _)); refine blk_far ?_ NB177_179.out _; (with_reducible repeat (first | refine blk_drewN ?_ _ | refine blk_drew ?_ | refine blk_alloc ?_ _)); refine blk_far ?_ NB177_179.out _; (with_reducible repeat (first | refine blk_drewN ?_ _ | refine blk_drew ?_ | refine blk_alloc ?_ _)); refine blk_far ?_ NB177_179.out _; (with_reducible repeat (first | refine blk_drewN ?_ _ | refine blk_drew ?_ | refine blk_alloc ?_ _)); refine blk_far ?_ NB177_179.out _; (with_reducible repeat (first | refine blk_drewN ?_ _ | refine blk_drew ?_ | refine blk_alloc ?_ _)); exact BK177.out⟩
           have n1_ : Aside0 (((((w8.setCell ⟨gb179, 0, none⟩ (.int .i64 ((rd_T104 l0_2 x8_1).f0.f0))).setCell ⟨gb179, 1, none⟩ (.int .i64 ((rd_T104 l0_2 x8_1).f0.f1))).setCell ⟨gb179, 2, none⟩ (.int .i64 ((rd_T104 l0_2 x8_1).f1))).setCell ⟨gb179, 3, none⟩ (.int .i64 ((rd_T104 l0_2 x8_1).f2))).heap[gb179]? = some (.cells #[.int .i64 ((rd_T104 l0_2 x8_1).f0.f0), .int .i64 ((rd_T104 l0_2 x8_1).f0.f1), .int .i64 ((rd_T104 l0_2 x8_1).f1), .int .i64 ((rd_T104 l0_2 x8_1).f2)] 104 (0, 0))) := ⟨by (with_reducible repeat (first | refine blk_drewN ?_ _ | refine blk_drew ?_ | refine blk_alloc ?_ _)); refine blk_put (cs := #[.int .i64 ((rd_T104 l0_2 x8_1).f0.f0), .int .i64 ((rd_T104 l0_2 x8_1).f0.f1), .int .i64 ((rd_T104 l0_2 x8_1).f1), .int .i64 0]) ?_ 3 _ rfl; (with_reducible repeat (first | refine blk_drewN ?_ _ | refine blk_drew ?_ | refine blk_alloc ?_ _)); refine blk_put (cs := #[.int .i64 ((rd_T104 l0_2 x8_1).f0.f0), .int .i64 ((rd_T104 l0_2 x8_1).f0.f1), .int .i64 0, .int .i64 0]) ?_ 2 _ rfl; (with_reducible repeat (first | refine blk_drewN ?_ _ | refine blk_drew ?_ | refine blk_alloc ?_ _)); refine blk_put (cs := #[.int .i64 ((rd_T104 l0_2 x8_1).f0.f0), .int .i64 0, .int .i64 0, .int .i64 0]) ?_ 1 _ rfl; (with_reducible repeat (first | refine blk_drewN ?_ _ | refine blk_drew ?_ | refine blk_alloc ?_ _)); refine blk_put (cs := #[.int .i64 0, .int .i64 0, .int .i64 0, .int .i64 0]) ?_ 0 _ rfl; (with_reducible repeat (first | refine blk_drewN ?_ _ | refine blk_drew ?_ | refine blk_alloc ?_ _)); exact BK179.out⟩
           have n2_ : Aside0 (Below w.heap.size w ((((w8.setCell ⟨gb179, 0, none⟩ (.int .i64 ((rd_T104 l0_2 x8_1).f0.f0))).setCell ⟨gb179, 1, none⟩ (.int .i64 ((rd_T104 l0_2 x8_1).f0.f1))).setCell ⟨gb179, 2, none⟩ (.int .i64 ((rd_T104 l0_2 x8_1).f1))).setCell ⟨gb179, 3, none⟩ (.int .i64 ((rd_T104 l0_2 x8_1).f2)))) := ⟨by repeat (first | (with_reducible first | exact HB.out | apply below_alloc | apply pw_below_drewN | apply below_drew1 | refine below_set ?_ GE177.out | refine below_set ?_ GE179.out) | exact HB.out)⟩
           (try clear BK177)
           (try clear BK179)
           (try clear HB)
           generalize ((((w8.setCell ⟨gb179, 0, none⟩ (.int .i64 ((rd_T104 l0_2 x8_1).f0.f0))).setCell ⟨gb179, 1, none⟩ (.int .i64 ((rd_T104 l0_2 x8_1).f0.f1))).setCell ⟨gb179, 2, none⟩ (.int .i64 ((rd_T104 l0_2 x8_1).f1))).setCell ⟨gb179, 3, none⟩ (.int .i64 ((rd_T104 l0_2 x8_1).f2))) = w16 at n0_ n1_ n2_ ⊢
           have BK177 := n0_
           have BK179 := n1_
           have HB := n2_
           clear n0_ n1_ n2_
           have n0_ := Aside0.mk (blk_drew BK177.out)
           have n1_ := Aside0.mk (blk_drew BK179.out)
           have n2_ := Aside0.mk (below_drew1 HB.out)
           clear BK177
           clear BK179
           clear HB
           have BK177 := n0_
           have BK179 := n1_
           have HB := n2_
           clear n0_ n1_ n2_
           have p180 : 0 ≤ ((ji12) : Int) := of_decide_eq_true (by first | (with_reducible assumption) | assumption)
           have q180 : (ji12) < (l0_2.length : Int) := of_decide_eq_true (by first | (with_reducible assumption) | assumption)
           obtain ⟨ad180, e180, hx180_0, hx180_1, hx180_2, hx180_3⟩ := at_T104 HR0_2.out (ji12) p180 q180
           have hw180_3 := hx180_3
           have hw180_2 := hx180_2
           have hw180_1 := hx180_1
           have hw180_0 := hx180_0
           obtain rfl : ad178 = ad180 := (by injection e180)
           replace hx180_0 := (HB.out.cell (World.block_lt_of_cell? w _ hx180_0)).trans hx180_0
           replace hx180_1 := (HB.out.cell (World.block_lt_of_cell? w _ hx180_1)).trans hx180_1
           replace hx180_2 := (HB.out.cell (World.block_lt_of_cell? w _ hx180_2)).trans hx180_2
           replace hx180_3 := (HB.out.cell (World.block_lt_of_cell? w _ hx180_3)).trans hx180_3
           replace p180 := eq_true p180
           replace q180 := eq_true q180
           refine start_ (n := 44) (S := fun w' => w'.cell? ⟨gb177, 0, none⟩ = some (.int .i64 a0_0) ∧ w'.cell? ⟨gb177, 1, none⟩ = some (.slice A0_1 l0_1.length c0_1) ∧ w'.cell? ⟨gb177, 2, none⟩ = some (.slice (some ad178) l0_2.length c0_2) ∧ w'.cell? ⟨gb179, 0, none⟩ = some (.int .i64 ((rd_T104 l0_2 x8_1).f0.f0)) ∧ w'.cell? ⟨gb179, 1, none⟩ = some (.int .i64 ((rd_T104 l0_2 x8_1).f0.f1)) ∧ w'.cell? ⟨gb179, 2, none⟩ = some (.int .i64 ((rd_T104 l0_2 x8_1).f1)) ∧ w'.cell? ⟨gb179, 3, none⟩ = some (.int .i64 ((rd_T104 l0_2 x8_1).f2)) ∧ w'.cell? (ad178.add (((ji12)).toNat * 4)) = some (.int .i64 ((rd_T104 l0_2 (ji12)).f0.f0)) ∧ w'.cell? ⟨(ad178.add (((ji12)).toNat * 4)).block, (ad178.add (((ji12)).toNat * 4)).off + 1, none⟩ = some (.int .i64 ((rd_T104 l0_2 (ji12)).f0.f1)) ∧ w'.cell? ⟨(ad178.add (((ji12)).toNat * 4)).block, (ad178.add (((ji12)).toNat * 4)).off + 2, none⟩ = some (.int .i64 ((rd_T104 l0_2 (ji12)).f1)) ∧ w'.cell? ⟨(ad178.add (((ji12)).toNat * 4)).block, (ad178.add (((ji12)).toNat * 4)).off + 3, none⟩ = some (.int .i64 ((rd_T104 l0_2 (ji12)).f2))) (ds := []) #[false, false, false, false, false, false, false, false, false, false, false, false, false, false, false, false, false, false, false, false, false, false, false, false, false, false, false, false, false, false, false, false, false, false, false, false, false, false, false, false, false, false, false, false] (by kernel_rfl) rfl rfl ⟨(blk_cell BK177.out 0).trans rfl, (blk_cell BK177.out 1).trans rfl, (blk_cell BK177.out 2).trans rfl, (blk_cell BK179.out 0).trans rfl, (blk_cell BK179.out 1).trans rfl, (blk_cell BK179.out 2).trans rfl, (blk_cell BK179.out 3).trans rfl, ((HB.out.cell (World.block_lt_of_cell? w _ hw180_0)).trans hw180_0), ((HB.out.cell (World.block_lt_of_cell? w _ hw180_1)).trans hw180_1), ((HB.out.cell (World.block_lt_of_cell? w _ hw180_2)).trans hw180_2), ((HB.out.cell (World.block_lt_of_cell? w _ hw180_3)).trans hw180_3)⟩ (fun hHeld => ?_); refine with_tabW impl_CertOk.tab4 impl_CertOk.bits4 (fun HT_ HW_ => ?_)
           generalize w16.drew = w17 at BK177 BK179 HB hx180_0 hx180_1 hx180_2 hx180_3 hHeld ⊢
           refine pu_ (i := 0) (N := some 13) (v := ?_) (a' := ?_) rfl rfl (any_of HT_.out (by kernel_rfl)) (fun _ _ _ h => h) (Or.inl ⟨by rfl, ?_⟩) ?_ ?_; rotate_left; (· (intro w'; go_simp; with_reducible rfl)); rotate_left; (· (simp only [Act.put, sA_, sZ_, sS_, i64_w, i32_w]; rfl))
           refine pu_ (i := 1) (N := some 14) (v := ?_) (a' := ?_) rfl rfl (any_of HT_.out (by kernel_rfl)) (fun _ _ _ h => h) (Or.inl ⟨by rfl, ?_⟩) ?_ ?_; rotate_left; (· (intro w'; go_simp; with_reducible rfl))
           rotate_left; (· (simp only [Act.put, sA_, sZ_, sS_, i64_w, i32_w]; rfl))
           refine pu_ (i := 2) (N := some 15) (v := ?_) (a' := ?_) rfl rfl (any_of HT_.out (by kernel_rfl)) (fun _ _ _ h => h) (Or.inl ⟨by rfl, ?_⟩) ?_ ?_; rotate_left; (· (intro w'; go_simp; with_reducible rfl)); rotate_left; (· (simp only [Act.put, sA_, sZ_, sS_, i64_w, i32_w]; rfl))
           refine pu_ (i := 3) (N := some 16) (v := ?_) (a' := ?_) rfl rfl (any_of HT_.out (by kernel_rfl)) (fun _ _ _ h => h) (Or.inl ⟨by rfl, ?_⟩) ?_ ?_; rotate_left; (· (intro w'; go_simp; with_reducible rfl))
           rotate_left; (· (simp only [Act.put, sA_, sZ_, sS_, i64_w, i32_w]; rfl))
           refine pu_ (i := 5) (N := some 18) (v := ?_) (a' := ?_) rfl rfl (any_of HT_.out (by kernel_rfl)) (fun _ _ _ h => h) (Or.inl ⟨by rfl, ?_⟩) ?_ ?_; rotate_left; (· (intro w'; go_simp; with_reducible rfl)); rotate_left; (· (simp only [Act.put, sA_, sZ_, sS_, i64_w, i32_w]; rfl))
           refine pu_ (i := 6) (N := some 19) (v := ?_) (a' := ?_) rfl rfl (any_of HT_.out (by kernel_rfl)) (fun _ _ _ h => h) (Or.inl ⟨by rfl, ?_⟩) ?_ ?_; rotate_left; (· (intro w'; go_simp; with_reducible rfl))
           rotate_left; (· (simp only [Act.put, sA_, sZ_, sS_, i64_w, i32_w]; rfl))
           refine pu_ (i := 11) (N := some 24) (v := ?_) (a' := ?_) rfl rfl (any_of HT_.out (by kernel_rfl)) (fun _ _ _ h => h) (Or.inl ⟨by rfl, ?_⟩) ?_ ?_; rotate_left; (· (intro w'; go_simp; with_reducible rfl)); rotate_left; (· (simp only [Act.put, sA_, sZ_, sS_, i64_w, i32_w]; rfl))
           refine pu_ (i := 12) (N := some 25) (v := ?_) (a' := ?_) rfl rfl (any_of HT_.out (by kernel_rfl)) (fun _ _ _ h => h) (Or.inl ⟨by rfl, ?_⟩) ?_ ?_; rotate_left; (· (intro w'; go_simp; with_reducible rfl))
           rotate_left; (· (simp only [Act.put, sA_, sZ_, sS_, i64_w, i32_w]; rfl))
           refine ta_ (i := 4) (N := some 17) (v := ?_) (a' := ?_) rfl rfl (take_ofW HT_.out HW_.out (by kernel_rfl)) (fun _ _ _ h => h) (Or.inl ⟨by rfl, ?_⟩) hHeld ?_ ?_
           rotate_left
           ·rintro w' ⟨s0, s1, s2, s3, s4, s5, s6, s7, s8, s9, s10⟩
            go_simp
            with_reducible rfl
           rotate_left; (· (simp only [Act.put, sA_, sZ_, sS_, i64_w, i32_w]; rfl))
           refine pu_ (i := 7) (N := some 20) (v := ?_) (a' := ?_) rfl rfl (any_of HT_.out (by kernel_rfl)) (fun _ _ _ h => h) (Or.inl ⟨by rfl, ?_⟩) ?_ ?_; rotate_left; (· (intro w'; go_simp; with_reducible rfl)); rotate_left; (· (simp only [Act.put, sA_, sZ_, sS_, i64_w, i32_w]; rfl))
           refine pu_ (i := 8) (N := some 21) (v := ?_) (a' := ?_) rfl rfl (any_of HT_.out (by kernel_rfl)) (fun _ _ _ h => h) (Or.inl ⟨by rfl, ?_⟩) ?_ ?_; rotate_left; (· (intro w'; go_simp; with_reducible rfl))
           rotate_left; (· (simp only [Act.put, sA_, sZ_, sS_, i64_w, i32_w]; rfl))
           refine pu_ (i := 9) (N := some 22) (v := ?_) (a' := ?_) rfl rfl (any_of HT_.out (by kernel_rfl)) (fun _ _ _ h => h) (Or.inl ⟨by rfl, ?_⟩) ?_ ?_; rotate_left; (· (intro w'; go_simp; with_reducible rfl)); rotate_left; (· (simp only [Act.put, sA_, sZ_, sS_, i64_w, i32_w]; rfl))
           refine ta_ (i := 10) (N := some 23) (v := ?_) (a' := ?_) rfl rfl (take_ofW HT_.out HW_.out (by kernel_rfl)) (fun _ _ _ h => h) (Or.inl ⟨by rfl, ?_⟩) hHeld ?_ ?_
           rotate_left
           ·rintro w' ⟨s0, s1, s2, s3, s4, s5, s6, s7, s8, s9, s10⟩
            go_simp
            with_reducible rfl
           rotate_left; (· (simp only [Act.put, sA_, sZ_, sS_, i64_w, i32_w]; rfl))
           refine ta_ (i := 13) (N := some 26) (v := ?_) (a' := ?_) rfl rfl (take_ofW HT_.out HW_.out (by kernel_rfl)) (fun _ _ _ h => h) (Or.inl ⟨by rfl, ?_⟩) hHeld ?_ ?_
           rotate_left
           ·rintro w' ⟨s0, s1, s2, s3, s4, s5, s6, s7, s8, s9, s10⟩
            go_simp
            with_reducible rfl
           rotate_left; (· (simp only [Act.put, sA_, sZ_, sS_, i64_w, i32_w]; rfl))
           refine pu_ (i := 14) (N := some 27) (v := ?_) (a' := ?_) rfl rfl (any_of HT_.out (by kernel_rfl)) (fun _ _ _ h => h) (Or.inl ⟨by rfl, ?_⟩) ?_ ?_; rotate_left; (· (intro w'; go_simp; with_reducible rfl)); rotate_left; (· (simp only [Act.put, sA_, sZ_, sS_, i64_w, i32_w]; rfl))
           refine pu_ (i := 15) (N := some 28) (v := ?_) (a' := ?_) rfl rfl (any_of HT_.out (by kernel_rfl)) (fun _ _ _ h => h) (Or.inl ⟨by rfl, ?_⟩) ?_ ?_; rotate_left; (· (intro w'; go_simp; with_reducible rfl))
           rotate_left; (· (simp only [Act.put, sA_, sZ_, sS_, i64_w, i32_w]; rfl))
           refine pu_ (i := 16) (N := some 29) (v := ?_) (a' := ?_) rfl rfl (any_of HT_.out (by kernel_rfl)) (fun _ _ _ h => h) (Or.inl ⟨by rfl, ?_⟩) ?_ ?_; rotate_left; (· (intro w'; go_simp; with_reducible rfl)); rotate_left; (· (simp only [Act.put, sA_, sZ_, sS_, i64_w, i32_w]; rfl))
           refine pu_ (i := 17) (N := some 30) (v := undef) (a' := ?_) rfl rfl (any_of HT_.out (by kernel_rfl)) (fun _ _ _ h => h) (Or.inr ⟨by rfl, rfl⟩) ?_ ?_; rotate_left; (· (simp only [Act.put, sA_, sZ_, sS_, i64_w, i32_w]; rfl))
           refine pu_ (i := 18) (N := some 31) (v := undef) (a' := ?_) rfl rfl (any_of HT_.out (by kernel_rfl)) (fun _ _ _ h => h) (Or.inr ⟨by rfl, rfl⟩) ?_ ?_
           rotate_left; (· (simp only [Act.put, sA_, sZ_, sS_, i64_w, i32_w]; rfl))
           refine pu_ (i := 19) (N := some 32) (v := undef) (a' := ?_) rfl rfl (any_of HT_.out (by kernel_rfl)) (fun _ _ _ h => h) (Or.inr ⟨by rfl, rfl⟩) ?_ ?_; rotate_left; (· (simp only [Act.put, sA_, sZ_, sS_, i64_w, i32_w]; rfl))
           refine pu_ (i := 20) (N := some 33) (v := undef) (a' := ?_) rfl rfl (any_of HT_.out (by kernel_rfl)) (fun _ _ _ h => h) (Or.inr ⟨by rfl, rfl⟩) ?_ ?_
           rotate_left; (· (simp only [Act.put, sA_, sZ_, sS_, i64_w, i32_w]; rfl))
           refine pu_ (i := 21) (N := some 34) (v := ?_) (a' := ?_) rfl rfl (any_of HT_.out (by kernel_rfl)) (fun _ _ _ h => h) (Or.inl ⟨by rfl, ?_⟩) ?_ ?_; rotate_left; (· (intro w'; go_simp; with_reducible rfl)); rotate_left; (· (simp only [Act.put, sA_, sZ_, sS_, i64_w, i32_w]; rfl))
           refine pu_ (i := 22) (N := some 35) (v := ?_) (a' := ?_) rfl rfl (any_of HT_.out (by kernel_rfl)) (fun _ _ _ h => h) (Or.inl ⟨by rfl, ?_⟩) ?_ ?_; rotate_left; (· (intro w'; go_simp; with_reducible rfl))
           rotate_left; (· (simp only [Act.put, sA_, sZ_, sS_, i64_w, i32_w]; rfl))
           refine pu_ (i := 23) (N := some 36) (v := undef) (a' := ?_) rfl rfl (any_of HT_.out (by kernel_rfl)) (fun _ _ _ h => h) (Or.inr ⟨by rfl, rfl⟩) ?_ ?_; rotate_left; (· (simp only [Act.put, sA_, sZ_, sS_, i64_w, i32_w]; rfl))
           refine pu_ (i := 24) (N := some 37) (v := undef) (a' := ?_) rfl rfl (any_of HT_.out (by kernel_rfl)) (fun _ _ _ h => h) (Or.inr ⟨by rfl, rfl⟩) ?_ ?_
           rotate_left; (· (simp only [Act.put, sA_, sZ_, sS_, i64_w, i32_w]; rfl))
           refine pu_ (i := 25) (N := some 38) (v := undef) (a' := ?_) rfl rfl (any_of HT_.out (by kernel_rfl)) (fun _ _ _ h => h) (Or.inr ⟨by rfl, rfl⟩) ?_ ?_; rotate_left; (· (simp only [Act.put, sA_, sZ_, sS_, i64_w, i32_w]; rfl))
           refine pu_ (i := 26) (N := some 39) (v := undef) (a' := ?_) rfl rfl (any_of HT_.out (by kernel_rfl)) (fun _ _ _ h => h) (Or.inr ⟨by rfl, rfl⟩) ?_ ?_
           rotate_left; (· (simp only [Act.put, sA_, sZ_, sS_, i64_w, i32_w]; rfl))
           refine pu_ (i := 27) (N := some 40) (v := ?_) (a' := ?_) rfl rfl (any_of HT_.out (by kernel_rfl)) (fun _ _ _ h => h) (Or.inl ⟨by rfl, ?_⟩) ?_ ?_; rotate_left; (· (intro w'; go_simp; with_reducible rfl)); rotate_left; (· (simp only [Act.put, sA_, sZ_, sS_, i64_w, i32_w]; rfl))
           refine pu_ (i := 28) (N := some 41) (v := ?_) (a' := ?_) rfl rfl (any_of HT_.out (by kernel_rfl)) (fun _ _ _ h => h) (Or.inl ⟨by rfl, ?_⟩) ?_ ?_; rotate_left; (· (intro w'; go_simp; with_reducible rfl))
           rotate_left; (· (simp only [Act.put, sA_, sZ_, sS_, i64_w, i32_w]; rfl))
           refine pu_ (i := 29) (N := some 42) (v := undef) (a' := ?_) rfl rfl (any_of HT_.out (by kernel_rfl)) (fun _ _ _ h => h) (Or.inr ⟨by rfl, rfl⟩) ?_ ?_; rotate_left; (· (simp only [Act.put, sA_, sZ_, sS_, i64_w, i32_w]; rfl))
           refine pu_ (i := 30) (N := some 43) (v := undef) (a' := ?_) rfl rfl (any_of HT_.out (by kernel_rfl)) (fun _ _ _ h => h) (Or.inr ⟨by rfl, rfl⟩) ?_ ?_
           rotate_left; (· (simp only [Act.put, sA_, sZ_, sS_, i64_w, i32_w]; rfl))
           refine pu_ (i := 31) (N := some 44) (v := undef) (a' := ?_) rfl rfl (any_of HT_.out (by kernel_rfl)) (fun _ _ _ h => h) (Or.inr ⟨by rfl, rfl⟩) ?_ ?_; rotate_left; (· (simp only [Act.put, sA_, sZ_, sS_, i64_w, i32_w]; rfl))
           refine pu_ (i := 32) (N := some 45) (v := undef) (a' := ?_) rfl rfl (any_of HT_.out (by kernel_rfl)) (fun _ _ _ h => h) (Or.inr ⟨by rfl, rfl⟩) ?_ ?_
           rotate_left; (· (simp only [Act.put, sA_, sZ_, sS_, i64_w, i32_w]; rfl))
           refine pu_ (i := 33) (N := some 46) (v := ?_) (a' := ?_) rfl rfl (any_of HT_.out (by kernel_rfl)) (fun _ _ _ h => h) (Or.inl ⟨by rfl, ?_⟩) ?_ ?_; rotate_left; (· (intro w'; go_simp; with_reducible rfl)); rotate_left; (· (simp only [Act.put, sA_, sZ_, sS_, i64_w, i32_w]; rfl))
           refine pu_ (i := 34) (N := some 47) (v := ?_) (a' := ?_) rfl rfl (any_of HT_.out (by kernel_rfl)) (fun _ _ _ h => h) (Or.inl ⟨by rfl, ?_⟩) ?_ ?_; rotate_left; (· (intro w'; go_simp; with_reducible rfl))
           rotate_left; (· (simp only [Act.put, sA_, sZ_, sS_, i64_w, i32_w]; rfl))
           refine pu_ (i := 35) (N := some 48) (v := undef) (a' := ?_) rfl rfl (any_of HT_.out (by kernel_rfl)) (fun _ _ _ h => h) (Or.inr ⟨by rfl, rfl⟩) ?_ ?_; rotate_left; (· (simp only [Act.put, sA_, sZ_, sS_, i64_w, i32_w]; rfl))
           refine pu_ (i := 36) (N := some 49) (v := undef) (a' := ?_) rfl rfl (any_of HT_.out (by kernel_rfl)) (fun _ _ _ h => h) (Or.inr ⟨by rfl, rfl⟩) ?_ ?_
           rotate_left; (· (simp only [Act.put, sA_, sZ_, sS_, i64_w, i32_w]; rfl))
           refine pu_ (i := 37) (N := some 50) (v := undef) (a' := ?_) rfl rfl (any_of HT_.out (by kernel_rfl)) (fun _ _ _ h => h) (Or.inr ⟨by rfl, rfl⟩) ?_ ?_; rotate_left; (· (simp only [Act.put, sA_, sZ_, sS_, i64_w, i32_w]; rfl))
           refine pu_ (i := 38) (N := some 51) (v := undef) (a' := ?_) rfl rfl (any_of HT_.out (by kernel_rfl)) (fun _ _ _ h => h) (Or.inr ⟨by rfl, rfl⟩) ?_ ?_
           rotate_left; (· (simp only [Act.put, sA_, sZ_, sS_, i64_w, i32_w]; rfl))
           refine pu_ (i := 39) (N := some 52) (v := undef) (a' := ?_) rfl rfl (any_of HT_.out (by kernel_rfl)) (fun _ _ _ h => h) (Or.inr ⟨by rfl, rfl⟩) ?_ ?_; rotate_left; (· (simp only [Act.put, sA_, sZ_, sS_, i64_w, i32_w]; rfl))
           refine pu_ (i := 40) (N := some 53) (v := undef) (a' := ?_) rfl rfl (any_of HT_.out (by kernel_rfl)) (fun _ _ _ h => h) (Or.inr ⟨by rfl, rfl⟩) ?_ ?_
           rotate_left; (· (simp only [Act.put, sA_, sZ_, sS_, i64_w, i32_w]; rfl))
           refine pu_ (i := 41) (N := some 54) (v := undef) (a' := ?_) rfl rfl (any_of HT_.out (by kernel_rfl)) (fun _ _ _ h => h) (Or.inr ⟨by rfl, rfl⟩) ?_ ?_; rotate_left; (· (simp only [Act.put, sA_, sZ_, sS_, i64_w, i32_w]; rfl))
           refine pu_ (i := 42) (N := some 55) (v := undef) (a' := ?_) rfl rfl (any_of HT_.out (by kernel_rfl)) (fun _ _ _ h => h) (Or.inr ⟨by rfl, rfl⟩) ?_ ?_
           rotate_left; (· (simp only [Act.put, sA_, sZ_, sS_, i64_w, i32_w]; rfl))
           refine pu_ (i := 43) (N := some 56) (v := ?_) (a' := ?_) rfl rfl (any_of HT_.out (by kernel_rfl)) (fun _ _ _ h => h) (Or.inl ⟨by rfl, ?_⟩) ?_ ?_; rotate_left; (· (intro w'; go_simp; with_reducible rfl)); rotate_left; (· (simp only [Act.put, sA_, sZ_, sS_, i64_w, i32_w]; rfl))
           refine done_ (done_of HT_.out (by kernel_rfl)) ?_
           try go_wp2
           go_meet
           case rel => exact ⟨_, (true), (by first | rfl | (simp; done) | (simp [*]; done)), H', ⟨by have := HK1.out; first | omega | exact Nat.le_refl _⟩, ⟨by (with_reducible repeat (first | refine blk_drewN ?_ _ | refine blk_drew ?_ | refine blk_alloc ?_ _)); exact BK177.out⟩, ⟨by (with_reducible repeat (first | refine blk_drewN ?_ _ | refine blk_drew ?_ | refine blk_alloc ?_ _)); exact BK179.out⟩, ⟨by repeat (first | (with_reducible first | exact HB.out | apply below_alloc | apply pw_below_drewN | apply below_drew1 | refine below_set ?_ GE177.out | refine below_set ?_ GE179.out) | exact HB.out)⟩⟩
          ·rw [if_neg c15] at H
           have c15b0 : decide (((rd_T104 l0_2 x8_1).f0.f0) ≤ ((rd_T104 l0_2 (ji12)).f0.f0)) = false := decide_eq_false c15
           clear c15
           replace H := Option.bind_eq_some_iff.mp H
           obtain ⟨t181, A180, H⟩ := H
           replace H : (if t181 = true then ((impl_in.f ((rd_T104 l0_2 x8_1).f1) 0 2).bind fun t182 => (if t182 = true then ((impl_in.f ((rd_T104 l0_2 x8_1).f2) (-1000000) 1000000).bind fun t183 => (if t183 = true then (if ((rd_T104 l0_2 x8_1).f1) = 0 then (impl_CertOk.j1 k1 l0_2 (l0_2.length : Int) x8_1 false a0_0 l0_1 l0_2) else (impl_CertOk.j1 k1 l0_2 (l0_2.length : Int) x8_1 (((rd_T104 l0_2 x8_1).f2) != 0) a0_0 l0_1 l0_2)) else (impl_CertOk.j1 k1 l0_2 (l0_2.length : Int) x8_1 true a0_0 l0_1 l0_2))) else (impl_CertOk.j1 k1 l0_2 (l0_2.length : Int) x8_1 true a0_0 l0_1 l0_2))) else (impl_CertOk.j1 k1 l0_2 (l0_2.length : Int) x8_1 true a0_0 l0_1 l0_2)) = some r := H
           have A18 := Aside0.mk A180
           clear A180
           by_cases c19 : t181 = true
           ·subst c19
            have H1 : ((impl_in.f ((rd_T104 l0_2 x8_1).f1) 0 2).bind fun t182 => (if t182 = true then ((impl_in.f ((rd_T104 l0_2 x8_1).f2) (-1000000) 1000000).bind fun t183 => (if t183 = true then (if ((rd_T104 l0_2 x8_1).f1) = 0 then (impl_CertOk.j1 k1 l0_2 (l0_2.length : Int) x8_1 false a0_0 l0_1 l0_2) else (impl_CertOk.j1 k1 l0_2 (l0_2.length : Int) x8_1 (((rd_T104 l0_2 x8_1).f2) != 0) a0_0 l0_1 l0_2)) else (impl_CertOk.j1 k1 l0_2 (l0_2.length : Int) x8_1 true a0_0 l0_1 l0_2))) else (impl_CertOk.j1 k1 l0_2 (l0_2.length : Int) x8_1 true a0_0 l0_1 l0_2))) = some r := by rw [if_pos rfl] at H; exact H
            clear H
            have H := H1
            clear H1
            replace H := Option.bind_eq_some_iff.mp H
            obtain ⟨t182, A200, H⟩ := H
            replace H : (if t182 = true then ((impl_in.f ((rd_T104 l0_2 x8_1).f2) (-1000000) 1000000).bind fun t183 => (if t183 = true then (if ((rd_T104 l0_2 x8_1).f1) = 0 then (impl_CertOk.j1 k1 l0_2 (l0_2.length : Int) x8_1 false a0_0 l0_1 l0_2) else (impl_CertOk.j1 k1 l0_2 (l0_2.length : Int) x8_1 (((rd_T104 l0_2 x8_1).f2) != 0) a0_0 l0_1 l0_2)) else (impl_CertOk.j1 k1 l0_2 (l0_2.length : Int) x8_1 true a0_0 l0_1 l0_2))) else (impl_CertOk.j1 k1 l0_2 (l0_2.length : Int) x8_1 true a0_0 l0_1 l0_2)) = some r := H
            have A20 := Aside0.mk A200
            clear A200
            by_cases c21 : t182 = true
            ·subst c21
             have H1 : ((impl_in.f ((rd_T104 l0_2 x8_1).f2) (-1000000) 1000000).bind fun t183 => (if t183 = true then (if ((rd_T104 l0_2 x8_1).f1) = 0 then (impl_CertOk.j1 k1 l0_2 (l0_2.length : Int) x8_1 false a0_0 l0_1 l0_2) else (impl_CertOk.j1 k1 l0_2 (l0_2.length : Int) x8_1 (((rd_T104 l0_2 x8_1).f2) != 0) a0_0 l0_1 l0_2)) else (impl_CertOk.j1 k1 l0_2 (l0_2.length : Int) x8_1 true a0_0 l0_1 l0_2))) = some r := by rw [if_pos rfl] at H; exact H
             clear H
             have H := H1
             clear H1
             replace H := Option.bind_eq_some_iff.mp H
             obtain ⟨t183, A220, H⟩ := H
             replace H : (if t183 = true then (if ((rd_T104 l0_2 x8_1).f1) = 0 then (impl_CertOk.j1 k1 l0_2 (l0_2.length : Int) x8_1 false a0_0 l0_1 l0_2) else (impl_CertOk.j1 k1 l0_2 (l0_2.length : Int) x8_1 (((rd_T104 l0_2 x8_1).f2) != 0) a0_0 l0_1 l0_2)) else (impl_CertOk.j1 k1 l0_2 (l0_2.length : Int) x8_1 true a0_0 l0_1 l0_2)) = some r := H
             have A22 := Aside0.mk A220
             clear A220
             by_cases c23 : t183 = true
             ·subst c23
              have H1 : (if ((rd_T104 l0_2 x8_1).f1) = 0 then (impl_CertOk.j1 k1 l0_2 (l0_2.length : Int) x8_1 false a0_0 l0_1 l0_2) else (impl_CertOk.j1 k1 l0_2 (l0_2.length : Int) x8_1 (((rd_T104 l0_2 x8_1).f2) != 0) a0_0 l0_1 l0_2)) = some r := by rw [if_pos rfl] at H; exact H
              clear H
              have H := H1
              clear H1
              by_cases c24 : ((rd_T104 l0_2 x8_1).f1) = 0
              ·rw [if_pos c24] at H
               have c24b0 : (((rd_T104 l0_2 x8_1).f1) == 0) = true := beq_iff_eq.mpr c24
               have c24b1 : (((rd_T104 l0_2 x8_1).f1) != 0) = false := bne_eq_false_iff_eq.mpr c24
               clear c24
               have H' := Aside0.mk H
               clear H
               try go_wp2
               have n0_ : Aside0 (((((w8.setCell ⟨gb179, 0, none⟩ (.int .i64 ((rd_T104 l0_2 x8_1).f0.f0))).setCell ⟨gb179, 1, none⟩ (.int .i64 ((rd_T104 l0_2 x8_1).f0.f1))).setCell ⟨gb179, 2, none⟩ (.int .i64 ((rd_T104 l0_2 x8_1).f1))).setCell ⟨gb179, 3, none⟩ (.int .i64 ((rd_T104 l0_2 x8_1).f2))).heap[gb177]? = some (.cells #[.int .i64 a0_0, .slice A0_1 l0_1.length c0_1, .slice (some ad178) l0_2.length c0_2] 25 (0, 0))) := ⟨by (with_reducible repeat (first | refine blk_drewN ?_ _ | refine blk_drew ?_ | refine blk_alloc ?_ _)); refine blk_far ?_ NB177_179.out _; (with_reducible repeat (first | refine blk_drewN ?_ _ | refine blk_drew ?_ | refine blk_alloc ?_ _)); refine blk_far ?_ NB177_179.out _; (with_reducible repeat (first | refine blk_drewN ?_ _ | refine blk_drew ?_ | refine blk_alloc ?_ _)); refine blk_far ?_ NB177_179.out _; (with_reducible repeat (first | refine blk_drewN ?_ _ | refine blk_drew ?_ | refine blk_alloc ?_ _)); refine blk_far ?_ NB177_179.out _; (with_reducible repeat (first | refine blk_drewN ?_ _ | refine blk_drew ?_ | refine blk_alloc ?_ _)); exact BK177.out⟩
               have n1_ : Aside0 (((((w8.setCell ⟨gb179, 0, none⟩ (.int .i64 ((rd_T104 l0_2 x8_1).f0.f0))).setCell ⟨gb179, 1, none⟩ (.int .i64 ((rd_T104 l0_2 x8_1).f0.f1))).setCell ⟨gb179, 2, none⟩ (.int .i64 ((rd_T104 l0_2 x8_1).f1))).setCell ⟨gb179, 3, none⟩ (.int .i64 ((rd_T104 l0_2 x8_1).f2))).heap[gb179]? = some (.cells #[.int .i64 ((rd_T104 l0_2 x8_1).f0.f0), .int .i64 ((rd_T104 l0_2 x8_1).f0.f1), .int .i64 ((rd_T104 l0_2 x8_1).f1), .int .i64 ((rd_T104 l0_2 x8_1).f2)] 104 (0, 0))) := ⟨by (with_reducible repeat (first | refine blk_drewN ?_ _ | refine blk_drew ?_ | refine blk_alloc ?_ _)); refine blk_put (cs := #[.int .i64 ((rd_T104 l0_2 x8_1).f0.f0), .int .i64 ((rd_T104 l0_2 x8_1).f0.f1), .int .i64 ((rd_T104 l0_2 x8_1).f1), .int .i64 0]) ?_ 3 _ rfl; (with_reducible repeat (first | refine blk_drewN ?_ _ | refine blk_drew ?_ | refine blk_alloc ?_ _)); refine blk_put (cs := #[.int .i64 ((rd_T104 l0_2 x8_1).f0.f0), .int .i64 ((rd_T104 l0_2 x8_1).f0.f1), .int .i64 0, .int .i64 0]) ?_ 2 _ rfl; (with_reducible repeat (first | refine blk_drewN ?_ _ | refine blk_drew ?_ | refine blk_alloc ?_ _)); refine blk_put (cs := #[.int .i64 ((rd_T104 l0_2 x8_1).f0.f0), .int .i64 0, .int .i64 0, .int .i64 0]) ?_ 1 _ rfl; (with_reducible repeat (first | refine blk_drewN ?_ _ | refine blk_drew ?_ | refine blk_alloc ?_ _)); refine blk_put (cs := #[.int .i64 0, .int .i64 0, .int .i64 0, .int .i64 0]) ?_ 0 _ rfl; (with_reducible repeat (first | refine blk_drewN ?_ _ | refine blk_drew ?_ | refine blk_alloc ?_ _)); exact BK179.out⟩
               have n2_ : Aside0 (Below w.heap.size w ((((w8.setCell ⟨gb179, 0, none⟩ (.int .i64 ((rd_T104 l0_2 x8_1).f0.f0))).setCell ⟨gb179, 1, none⟩ (.int .i64 ((rd_T104 l0_2 x8_1).f0.f1))).setCell ⟨gb179, 2, none⟩ (.int .i64 ((rd_T104 l0_2 x8_1).f1))).setCell ⟨gb179, 3, none⟩ (.int .i64 ((rd_T104 l0_2 x8_1).f2)))) := ⟨by repeat (first | (with_reducible first | exact HB.out | apply below_alloc | apply pw_below_drewN | apply below_drew1 | refine below_set ?_ GE177.out | refine below_set ?_ GE179.out) | exact HB.out)⟩
               (try clear BK177)
               (try clear BK179)
               (try clear HB)
               generalize ((((w8.setCell ⟨gb179, 0, none⟩ (.int .i64 ((rd_T104 l0_2 x8_1).f0.f0))).setCell ⟨gb179, 1, none⟩ (.int .i64 ((rd_T104 l0_2 x8_1).f0.f1))).setCell ⟨gb179, 2, none⟩ (.int .i64 ((rd_T104 l0_2 x8_1).f1))).setCell ⟨gb179, 3, none⟩ (.int .i64 ((rd_T104 l0_2 x8_1).f2))) = w25 at n0_ n1_ n2_ ⊢
               have BK177 := n0_
               have BK179 := n1_
               have HB := n2_
               clear n0_ n1_ n2_
               have n0_ := Aside0.mk (blk_drew BK177.out)
               have n1_ := Aside0.mk (blk_drew BK179.out)
               have n2_ := Aside0.mk (below_drew1 HB.out)
               clear BK177
               clear BK179
               clear HB
               have BK177 := n0_
               have BK179 := n1_
               have HB := n2_
               clear n0_ n1_ n2_
               have p180 : 0 ≤ ((ji12) : Int) := of_decide_eq_true (by first | (with_reducible assumption) | assumption)
               have q180 : (ji12) < (l0_2.length : Int) := of_decide_eq_true (by first | (with_reducible assumption) | assumption)
               obtain ⟨ad180, e180, hx180_0, hx180_1, hx180_2, hx180_3⟩ := at_T104 HR0_2.out (ji12) p180 q180
               have hw180_3 := hx180_3
               have hw180_2 := hx180_2
               have hw180_1 := hx180_1
               have hw180_0 := hx180_0
               obtain rfl : ad178 = ad180 := (by injection e180)
               replace hx180_0 := (HB.out.cell (World.block_lt_of_cell? w _ hx180_0)).trans hx180_0
               replace hx180_1 := (HB.out.cell (World.block_lt_of_cell? w _ hx180_1)).trans hx180_1
               replace hx180_2 := (HB.out.cell (World.block_lt_of_cell? w _ hx180_2)).trans hx180_2
               replace hx180_3 := (HB.out.cell (World.block_lt_of_cell? w _ hx180_3)).trans hx180_3
               replace p180 := eq_true p180
               replace q180 := eq_true q180
               refine start_ (n := 44) (S := fun w' => w'.cell? ⟨gb177, 0, none⟩ = some (.int .i64 a0_0) ∧ w'.cell? ⟨gb177, 1, none⟩ = some (.slice A0_1 l0_1.length c0_1) ∧ w'.cell? ⟨gb177, 2, none⟩ = some (.slice (some ad178) l0_2.length c0_2) ∧ w'.cell? ⟨gb179, 0, none⟩ = some (.int .i64 ((rd_T104 l0_2 x8_1).f0.f0)) ∧ w'.cell? ⟨gb179, 1, none⟩ = some (.int .i64 ((rd_T104 l0_2 x8_1).f0.f1)) ∧ w'.cell? ⟨gb179, 2, none⟩ = some (.int .i64 ((rd_T104 l0_2 x8_1).f1)) ∧ w'.cell? ⟨gb179, 3, none⟩ = some (.int .i64 ((rd_T104 l0_2 x8_1).f2)) ∧ w'.cell? (ad178.add (((ji12)).toNat * 4)) = some (.int .i64 ((rd_T104 l0_2 (ji12)).f0.f0)) ∧ w'.cell? ⟨(ad178.add (((ji12)).toNat * 4)).block, (ad178.add (((ji12)).toNat * 4)).off + 1, none⟩ = some (.int .i64 ((rd_T104 l0_2 (ji12)).f0.f1)) ∧ w'.cell? ⟨(ad178.add (((ji12)).toNat * 4)).block, (ad178.add (((ji12)).toNat * 4)).off + 2, none⟩ = some (.int .i64 ((rd_T104 l0_2 (ji12)).f1)) ∧ w'.cell? ⟨(ad178.add (((ji12)).toNat * 4)).block, (ad178.add (((ji12)).toNat * 4)).off + 3, none⟩ = some (.int .i64 ((rd_T104 l0_2 (ji12)).f2))) (ds := []) #[false, false, false, false, false, false, false, false, false, false, false, false, false, false, false, false, false, false, false, false, false, false, false, false, false, false, false, false, false, false, false, false, false, false, false, false, false, false, false, false, false, false, false, false] (by kernel_rfl) rfl rfl ⟨(blk_cell BK177.out 0).trans rfl, (blk_cell BK177.out 1).trans rfl, (blk_cell BK177.out 2).trans rfl, (blk_cell BK179.out 0).trans rfl, (blk_cell BK179.out 1).trans rfl, (blk_cell BK179.out 2).trans rfl, (blk_cell BK179.out 3).trans rfl, ((HB.out.cell (World.block_lt_of_cell? w _ hw180_0)).trans hw180_0), ((HB.out.cell (World.block_lt_of_cell? w _ hw180_1)).trans hw180_1), ((HB.out.cell (World.block_lt_of_cell? w _ hw180_2)).trans hw180_2), ((HB.out.cell (World.block_lt_of_cell? w _ hw180_3)).trans hw180_3)⟩ (fun hHeld => ?_); refine with_tabW impl_CertOk.tab4 impl_CertOk.bits4 (fun HT_ HW_ => ?_)
               generalize w25.drew = w26 at BK177 BK179 HB hx180_0 hx180_1 hx180_2 hx180_3 hHeld ⊢
               refine pu_ (i := 0) (N := some 13) (v := ?_) (a' := ?_) rfl rfl (any_of HT_.out (by kernel_rfl)) (fun _ _ _ h => h) (Or.inl ⟨by rfl, ?_⟩) ?_ ?_; rotate_left; (· (intro w'; go_simp; with_reducible rfl)); rotate_left; (· (simp only [Act.put, sA_, sZ_, sS_, i64_w, i32_w]; rfl))
               refine pu_ (i := 1) (N := some 14) (v := ?_) (a' := ?_) rfl rfl (any_of HT_.out (by kernel_rfl)) (fun _ _ _ h => h) (Or.inl ⟨by rfl, ?_⟩) ?_ ?_; rotate_left; (· (intro w'; go_simp; with_reducible rfl))
               rotate_left; (· (simp only [Act.put, sA_, sZ_, sS_, i64_w, i32_w]; rfl))
               refine pu_ (i := 2) (N := some 15) (v := ?_) (a' := ?_) rfl rfl (any_of HT_.out (by kernel_rfl)) (fun _ _ _ h => h) (Or.inl ⟨by rfl, ?_⟩) ?_ ?_; rotate_left; (· (intro w'; go_simp; with_reducible rfl)); rotate_left; (· (simp only [Act.put, sA_, sZ_, sS_, i64_w, i32_w]; rfl))
               refine pu_ (i := 3) (N := some 16) (v := ?_) (a' := ?_) rfl rfl (any_of HT_.out (by kernel_rfl)) (fun _ _ _ h => h) (Or.inl ⟨by rfl, ?_⟩) ?_ ?_; rotate_left; (· (intro w'; go_simp; with_reducible rfl))
               rotate_left; (· (simp only [Act.put, sA_, sZ_, sS_, i64_w, i32_w]; rfl))
               refine pu_ (i := 5) (N := some 18) (v := ?_) (a' := ?_) rfl rfl (any_of HT_.out (by kernel_rfl)) (fun _ _ _ h => h) (Or.inl ⟨by rfl, ?_⟩) ?_ ?_; rotate_left; (· (intro w'; go_simp; with_reducible rfl)); rotate_left; (· (simp only [Act.put, sA_, sZ_, sS_, i64_w, i32_w]; rfl))
               refine pu_ (i := 6) (N := some 19) (v := ?_) (a' := ?_) rfl rfl (any_of HT_.out (by kernel_rfl)) (fun _ _ _ h => h) (Or.inl ⟨by rfl, ?_⟩) ?_ ?_; rotate_left; (· (intro w'; go_simp; with_reducible rfl))
               rotate_left; (· (simp only [Act.put, sA_, sZ_, sS_, i64_w, i32_w]; rfl))
               refine pu_ (i := 11) (N := some 24) (v := ?_) (a' := ?_) rfl rfl (any_of HT_.out (by kernel_rfl)) (fun _ _ _ h => h) (Or.inl ⟨by rfl, ?_⟩) ?_ ?_; rotate_left; (· (intro w'; go_simp; with_reducible rfl)); rotate_left; (· (simp only [Act.put, sA_, sZ_, sS_, i64_w, i32_w]; rfl))
               refine pu_ (i := 12) (N := some 25) (v := ?_) (a' := ?_) rfl rfl (any_of HT_.out (by kernel_rfl)) (fun _ _ _ h => h) (Or.inl ⟨by rfl, ?_⟩) ?_ ?_; rotate_left; (· (intro w'; go_simp; with_reducible rfl))
               rotate_left; (· (simp only [Act.put, sA_, sZ_, sS_, i64_w, i32_w]; rfl))
               refine ta_ (i := 4) (N := some 17) (v := ?_) (a' := ?_) rfl rfl (take_ofW HT_.out HW_.out (by kernel_rfl)) (fun _ _ _ h => h) (Or.inl ⟨by rfl, ?_⟩) hHeld ?_ ?_
               rotate_left
               ·rintro w' ⟨s0, s1, s2, s3, s4, s5, s6, s7, s8, s9, s10⟩
                go_simp
                with_reducible rfl
               rotate_left; (· (simp only [Act.put, sA_, sZ_, sS_, i64_w, i32_w]; rfl))
               refine pu_ (i := 7) (N := some 20) (v := ?_) (a' := ?_) rfl rfl (any_of HT_.out (by kernel_rfl)) (fun _ _ _ h => h) (Or.inl ⟨by rfl, ?_⟩) ?_ ?_; rotate_left; (· (intro w'; go_simp; with_reducible rfl)); rotate_left; (· (simp only [Act.put, sA_, sZ_, sS_, i64_w, i32_w]; rfl))
               refine pu_ (i := 8) (N := some 21) (v := ?_) (a' := ?_) rfl rfl (any_of HT_.out (by kernel_rfl)) (fun _ _ _ h => h) (Or.inl ⟨by rfl, ?_⟩) ?_ ?_; rotate_left; (· (intro w'; go_simp; with_reducible rfl))
               rotate_left; (· (simp only [Act.put, sA_, sZ_, sS_, i64_w, i32_w]; rfl))
               refine pu_ (i := 9) (N := some 22) (v := ?_) (a' := ?_) rfl rfl (any_of HT_.out (by kernel_rfl)) (fun _ _ _ h => h) (Or.inl ⟨by rfl, ?_⟩) ?_ ?_; rotate_left; (· (intro w'; go_simp; with_reducible rfl)); rotate_left; (· (simp only [Act.put, sA_, sZ_, sS_, i64_w, i32_w]; rfl))
               refine ta_ (i := 10) (N := some 23) (v := ?_) (a' := ?_) rfl rfl (take_ofW HT_.out HW_.out (by kernel_rfl)) (fun _ _ _ h => h) (Or.inl ⟨by rfl, ?_⟩) hHeld ?_ ?_
               rotate_left
               ·rintro w' ⟨s0, s1, s2, s3, s4, s5, s6, s7, s8, s9, s10⟩
                go_simp
                with_reducible rfl
               rotate_left; (· (simp only [Act.put, sA_, sZ_, sS_, i64_w, i32_w]; rfl))
               refine ta_ (i := 13) (N := some 26) (v := ?_) (a' := ?_) rfl rfl (take_ofW HT_.out HW_.out (by kernel_rfl)) (fun _ _ _ h => h) (Or.inl ⟨by rfl, ?_⟩) hHeld ?_ ?_
               rotate_left
               ·rintro w' ⟨s0, s1, s2, s3, s4, s5, s6, s7, s8, s9, s10⟩
                go_simp
                with_reducible rfl
               rotate_left; (· (simp only [Act.put, sA_, sZ_, sS_, i64_w, i32_w]; rfl))
               refine pu_ (i := 14) (N := some 27) (v := ?_) (a' := ?_) rfl rfl (any_of HT_.out (by kernel_rfl)) (fun _ _ _ h => h) (Or.inl ⟨by rfl, ?_⟩) ?_ ?_; rotate_left; (· (intro w'; go_simp; with_reducible rfl)); rotate_left; (· (simp only [Act.put, sA_, sZ_, sS_, i64_w, i32_w]; rfl))
               refine pu_ (i := 15) (N := some 28) (v := ?_) (a' := ?_) rfl rfl (any_of HT_.out (by kernel_rfl)) (fun _ _ _ h => h) (Or.inl ⟨by rfl, ?_⟩) ?_ ?_; rotate_left; (· (intro w'; go_simp; with_reducible rfl))
               rotate_left; (· (simp only [Act.put, sA_, sZ_, sS_, i64_w, i32_w]; rfl))
               refine pu_ (i := 16) (N := some 29) (v := ?_) (a' := ?_) rfl rfl (any_of HT_.out (by kernel_rfl)) (fun _ _ _ h => h) (Or.inl ⟨by rfl, ?_⟩) ?_ ?_; rotate_left; (· (intro w'; go_simp; with_reducible rfl)); rotate_left; (· (simp only [Act.put, sA_, sZ_, sS_, i64_w, i32_w]; rfl))
               refine pu_ (i := 17) (N := some 30) (v := ?_) (a' := ?_) rfl rfl (any_of HT_.out (by kernel_rfl)) (fun _ _ _ h => h) (Or.inl ⟨by rfl, ?_⟩) ?_ ?_; rotate_left; (· (intro w'; go_simp; with_reducible rfl))
               rotate_left; (· (simp only [Act.put, sA_, sZ_, sS_, i64_w, i32_w]; rfl))
               refine ta_ (i := 18) (N := some 31) (v := ?_) (a' := ?_) rfl rfl (take_ofW HT_.out HW_.out (by kernel_rfl)) (fun _ _ _ h => h) (Or.inl ⟨by rfl, ?_⟩) hHeld ?_ ?_
               rotate_left
               ·rintro w' ⟨s0, s1, s2, s3, s4, s5, s6, s7, s8, s9, s10⟩
                go_simp
                with_reducible rfl
               rotate_left; (· (simp only [Act.put, sA_, sZ_, sS_, i64_w, i32_w]; rfl))
               refine on_ (i := 19) (N := some 32) rfl rfl (one_of HT_.out (by kernel_rfl)) (by decide) (fun K hK => ?_)
               refine goes_ Try.func91 (by kernel_rfl) rfl #[.agg #[.int .i64 ((rd_T104 l0_2 x8_1).f0.f0), .int .i64 ((rd_T104 l0_2 x8_1).f0.f1)]] (by rfl) rfl rfl (by (try simp only [List.map_toArray, List.map_cons, List.map_nil]); first | done | rfl | (simp only [List.length_drop, List.length_take]; rfl)) ?_
               with_reducible refine (impl_reqOk.calls ((rd_T104 l0_2 x8_1).f0.f0) ((rd_T104 l0_2 x8_1).f0.f1) true _ A18.out).mono ?_
               rintro e w27 ⟨rfl, hb⟩
               refine ⟨_, rfl, ?_⟩
               have n0_ := Aside0.mk (blk_below (g := gb177) (o := .cells #[.int .i64 a0_0, .slice A0_1 l0_1.length c0_1, .slice (some ad178) l0_2.length c0_2] 25 (0, 0)) (by (with_reducible repeat (first | refine blk_drewN ?_ _ | refine blk_drew ?_ | refine blk_alloc ?_ _)); exact BK177.out) hb)
               have n1_ := Aside0.mk (blk_below (g := gb179) (o := .cells #[.int .i64 ((rd_T104 l0_2 x8_1).f0.f0), .int .i64 ((rd_T104 l0_2 x8_1).f0.f1), .int .i64 ((rd_T104 l0_2 x8_1).f1), .int .i64 ((rd_T104 l0_2 x8_1).f2)] 104 (0, 0)) (by (with_reducible repeat (first | refine blk_drewN ?_ _ | refine blk_drew ?_ | refine blk_alloc ?_ _)); exact BK179.out) hb)
               have n2_ := Aside0.mk (below_step (by repeat (first | (with_reducible first | exact HB.out | apply below_alloc | apply pw_below_drewN | apply below_drew1 | refine below_set ?_ GE177.out | refine below_set ?_ GE179.out) | exact HB.out)) hb)
               clear BK177
               clear BK179
               clear HB
               have BK177 := n0_
               have BK179 := n1_
               have HB := n2_
               clear n0_ n1_ n2_
               (try clear hb)
               (try clear hb2)
               (try clear hk)
               (try clear hi)
               refine hK.out _ _ ⟨(blk_cell BK177.out 0).trans rfl, (blk_cell BK177.out 1).trans rfl, (blk_cell BK177.out 2).trans rfl, (blk_cell BK179.out 0).trans rfl, (blk_cell BK179.out 1).trans rfl, (blk_cell BK179.out 2).trans rfl, (blk_cell BK179.out 3).trans rfl, ((HB.out.cell (World.block_lt_of_cell? w _ hw180_0)).trans hw180_0), ((HB.out.cell (World.block_lt_of_cell? w _ hw180_1)).trans hw180_1), ((HB.out.cell (World.block_lt_of_cell? w _ hw180_2)).trans hw180_2), ((HB.out.cell (World.block_lt_of_cell? w _ hw180_3)).trans hw180_3)⟩ (fun hHeld => ?_)
               clear hK K
               refine norm_ (a' := ?_) ?_ ?_
               rotate_left
               ·show Act.put _ (some 32) _ = _
                simp only [Act.put, sA_, sZ_, sS_, i64_w, i32_w]
                rfl
               refine pu_ (i := 20) (N := some 33) (v := ?_) (a' := ?_) rfl rfl (any_of HT_.out (by kernel_rfl)) (fun _ _ _ h => h) (Or.inl ⟨by rfl, ?_⟩) ?_ ?_; rotate_left; (· (intro w'; go_simp; with_reducible rfl)); rotate_left; (· (simp only [Act.put, sA_, sZ_, sS_, i64_w, i32_w]; rfl))
               refine pu_ (i := 21) (N := some 34) (v := ?_) (a' := ?_) rfl rfl (any_of HT_.out (by kernel_rfl)) (fun _ _ _ h => h) (Or.inl ⟨by rfl, ?_⟩) ?_ ?_; rotate_left; (· (intro w'; go_simp; with_reducible rfl))
               rotate_left; (· (simp only [Act.put, sA_, sZ_, sS_, i64_w, i32_w]; rfl))
               refine pu_ (i := 22) (N := some 35) (v := ?_) (a' := ?_) rfl rfl (any_of HT_.out (by kernel_rfl)) (fun _ _ _ h => h) (Or.inl ⟨by rfl, ?_⟩) ?_ ?_; rotate_left; (· (intro w'; go_simp; with_reducible rfl)); rotate_left; (· (simp only [Act.put, sA_, sZ_, sS_, i64_w, i32_w]; rfl))
               refine pu_ (i := 23) (N := some 36) (v := ?_) (a' := ?_) rfl rfl (any_of HT_.out (by kernel_rfl)) (fun _ _ _ h => h) (Or.inl ⟨by rfl, ?_⟩) ?_ ?_; rotate_left; (· (intro w'; go_simp; with_reducible rfl))
               rotate_left; (· (simp only [Act.put, sA_, sZ_, sS_, i64_w, i32_w]; rfl))
               refine ta_ (i := 24) (N := some 37) (v := ?_) (a' := ?_) rfl rfl (take_ofW HT_.out HW_.out (by kernel_rfl)) (fun _ _ _ h => h) (Or.inl ⟨by rfl, ?_⟩) hHeld ?_ ?_
               rotate_left
               ·rintro w' ⟨s0, s1, s2, s3, s4, s5, s6, s7, s8, s9, s10⟩
                go_simp
                with_reducible rfl
               rotate_left; (· (simp only [Act.put, sA_, sZ_, sS_, i64_w, i32_w]; rfl))
               refine on_ (i := 25) (N := some 38) rfl rfl (one_of HT_.out (by kernel_rfl)) (by decide) (fun K hK => ?_)
               refine goes_ Try.func78 (by kernel_rfl) rfl #[.int .i64 ((rd_T104 l0_2 x8_1).f1), .int .i64 0, .int .i64 2] (by rfl) rfl rfl (by (try simp only [List.map_toArray, List.map_cons, List.map_nil]); first | done | rfl | (simp only [List.length_drop, List.length_take]; rfl)) ?_
               with_reducible refine (impl_in.calls ((rd_T104 l0_2 x8_1).f1) 0 2 true _ A20.out).mono ?_
               rintro e w' ⟨rfl, ⟨nd, rfl⟩⟩
               refine ⟨_, rfl, ?_⟩
               refine hK.out _ _ ⟨(blk_cell BK177.out 0).trans rfl, (blk_cell BK177.out 1).trans rfl, (blk_cell BK177.out 2).trans rfl, (blk_cell BK179.out 0).trans rfl, (blk_cell BK179.out 1).trans rfl, (blk_cell BK179.out 2).trans rfl, (blk_cell BK179.out 3).trans rfl, ((HB.out.cell (World.block_lt_of_cell? w _ hw180_0)).trans hw180_0), ((HB.out.cell (World.block_lt_of_cell? w _ hw180_1)).trans hw180_1), ((HB.out.cell (World.block_lt_of_cell? w _ hw180_2)).trans hw180_2), ((HB.out.cell (World.block_lt_of_cell? w _ hw180_3)).trans hw180_3)⟩ (fun hHeld => ?_)
               clear hK K
               refine norm_ (a' := ?_) ?_ ?_
               rotate_left
               ·show Act.put _ (some 38) _ = _
                simp only [Act.put, sA_, sZ_, sS_, i64_w, i32_w]
                rfl
               refine pu_ (i := 26) (N := some 39) (v := ?_) (a' := ?_) rfl rfl (any_of HT_.out (by kernel_rfl)) (fun _ _ _ h => h) (Or.inl ⟨by rfl, ?_⟩) ?_ ?_; rotate_left; (· (intro w'; go_simp; with_reducible rfl)); rotate_left; (· (simp only [Act.put, sA_, sZ_, sS_, i64_w, i32_w]; rfl))
               refine pu_ (i := 27) (N := some 40) (v := ?_) (a' := ?_) rfl rfl (any_of HT_.out (by kernel_rfl)) (fun _ _ _ h => h) (Or.inl ⟨by rfl, ?_⟩) ?_ ?_; rotate_left; (· (intro w'; go_simp; with_reducible rfl))
               rotate_left; (· (simp only [Act.put, sA_, sZ_, sS_, i64_w, i32_w]; rfl))
               refine pu_ (i := 28) (N := some 41) (v := ?_) (a' := ?_) rfl rfl (any_of HT_.out (by kernel_rfl)) (fun _ _ _ h => h) (Or.inl ⟨by rfl, ?_⟩) ?_ ?_; rotate_left; (· (intro w'; go_simp; with_reducible rfl)); rotate_left; (· (simp only [Act.put, sA_, sZ_, sS_, i64_w, i32_w]; rfl))
               refine pu_ (i := 29) (N := some 42) (v := ?_) (a' := ?_) rfl rfl (any_of HT_.out (by kernel_rfl)) (fun _ _ _ h => h) (Or.inl ⟨by rfl, ?_⟩) ?_ ?_; rotate_left; (· (intro w'; go_simp; with_reducible rfl))
               rotate_left; (· (simp only [Act.put, sA_, sZ_, sS_, i64_w, i32_w]; rfl))
               refine ta_ (i := 30) (N := some 43) (v := ?_) (a' := ?_) rfl rfl (take_ofW HT_.out HW_.out (by kernel_rfl)) (fun _ _ _ h => h) (Or.inl ⟨by rfl, ?_⟩) hHeld ?_ ?_
               rotate_left
               ·rintro w' ⟨s0, s1, s2, s3, s4, s5, s6, s7, s8, s9, s10⟩
                go_simp
                with_reducible rfl
               rotate_left; (· (simp only [Act.put, sA_, sZ_, sS_, i64_w, i32_w]; rfl))
               refine on_ (i := 31) (N := some 44) rfl rfl (one_of HT_.out (by kernel_rfl)) (by decide) (fun K hK => ?_)
               refine goes_ Try.func78 (by kernel_rfl) rfl #[.int .i64 ((rd_T104 l0_2 x8_1).f2), .int .i64 (-1000000), .int .i64 1000000] (by rfl) rfl rfl (by (try simp only [List.map_toArray, List.map_cons, List.map_nil]); first | done | rfl | (simp only [List.length_drop, List.length_take]; rfl)) ?_
               with_reducible refine (impl_in.calls ((rd_T104 l0_2 x8_1).f2) (-1000000) 1000000 true _ A22.out).mono ?_
               rintro e w' ⟨rfl, ⟨nd, rfl⟩⟩
               refine ⟨_, rfl, ?_⟩
               refine hK.out _ _ ⟨(blk_cell BK177.out 0).trans rfl, (blk_cell BK177.out 1).trans rfl, (blk_cell BK177.out 2).trans rfl, (blk_cell BK179.out 0).trans rfl, (blk_cell BK179.out 1).trans rfl, (blk_cell BK179.out 2).trans rfl, (blk_cell BK179.out 3).trans rfl, ((HB.out.cell (World.block_lt_of_cell? w _ hw180_0)).trans hw180_0), ((HB.out.cell (World.block_lt_of_cell? w _ hw180_1)).trans hw180_1), ((HB.out.cell (World.block_lt_of_cell? w _ hw180_2)).trans hw180_2), ((HB.out.cell (World.block_lt_of_cell? w _ hw180_3)).trans hw180_3)⟩ (fun hHeld => ?_)
               clear hK K
               refine norm_ (a' := ?_) ?_ ?_
               rotate_left
               ·show Act.put _ (some 44) _ = _
                simp only [Act.put, sA_, sZ_, sS_, i64_w, i32_w]
                rfl
               refine pu_ (i := 32) (N := some 45) (v := ?_) (a' := ?_) rfl rfl (any_of HT_.out (by kernel_rfl)) (fun _ _ _ h => h) (Or.inl ⟨by rfl, ?_⟩) ?_ ?_; rotate_left; (· (intro w'; go_simp; with_reducible rfl)); rotate_left; (· (simp only [Act.put, sA_, sZ_, sS_, i64_w, i32_w]; rfl))
               refine pu_ (i := 33) (N := some 46) (v := ?_) (a' := ?_) rfl rfl (any_of HT_.out (by kernel_rfl)) (fun _ _ _ h => h) (Or.inl ⟨by rfl, ?_⟩) ?_ ?_; rotate_left; (· (intro w'; go_simp; with_reducible rfl))
               rotate_left; (· (simp only [Act.put, sA_, sZ_, sS_, i64_w, i32_w]; rfl))
               refine pu_ (i := 34) (N := some 47) (v := ?_) (a' := ?_) rfl rfl (any_of HT_.out (by kernel_rfl)) (fun _ _ _ h => h) (Or.inl ⟨by rfl, ?_⟩) ?_ ?_; rotate_left; (· (intro w'; go_simp; with_reducible rfl)); rotate_left; (· (simp only [Act.put, sA_, sZ_, sS_, i64_w, i32_w]; rfl))
               refine pu_ (i := 35) (N := some 48) (v := ?_) (a' := ?_) rfl rfl (any_of HT_.out (by kernel_rfl)) (fun _ _ _ h => h) (Or.inl ⟨by rfl, ?_⟩) ?_ ?_; rotate_left; (· (intro w'; go_simp; with_reducible rfl))
               rotate_left; (· (simp only [Act.put, sA_, sZ_, sS_, i64_w, i32_w]; rfl))
               refine ta_ (i := 36) (N := some 49) (v := ?_) (a' := ?_) rfl rfl (take_ofW HT_.out HW_.out (by kernel_rfl)) (fun _ _ _ h => h) (Or.inl ⟨by rfl, ?_⟩) hHeld ?_ ?_
               rotate_left
               ·rintro w' ⟨s0, s1, s2, s3, s4, s5, s6, s7, s8, s9, s10⟩
                go_simp
                with_reducible rfl
               rotate_left; (· (simp only [Act.put, sA_, sZ_, sS_, i64_w, i32_w]; rfl))
               refine pu_ (i := 37) (N := some 50) (v := ?_) (a' := ?_) rfl rfl (any_of HT_.out (by kernel_rfl)) (fun _ _ _ h => h) (Or.inl ⟨by rfl, ?_⟩) ?_ ?_; rotate_left; (· (intro w'; go_simp; with_reducible rfl)); rotate_left; (· (simp only [Act.put, sA_, sZ_, sS_, i64_w, i32_w]; rfl))
               refine pu_ (i := 38) (N := some 51) (v := ?_) (a' := ?_) rfl rfl (any_of HT_.out (by kernel_rfl)) (fun _ _ _ h => h) (Or.inl ⟨by rfl, ?_⟩) ?_ ?_; rotate_left; (· (intro w'; go_simp; with_reducible rfl))
               rotate_left; (· (simp only [Act.put, sA_, sZ_, sS_, i64_w, i32_w]; rfl))
               refine pu_ (i := 39) (N := some 52) (v := undef) (a' := ?_) rfl rfl (any_of HT_.out (by kernel_rfl)) (fun _ _ _ h => h) (Or.inr ⟨by rfl, rfl⟩) ?_ ?_; rotate_left; (· (simp only [Act.put, sA_, sZ_, sS_, i64_w, i32_w]; rfl))
               refine pu_ (i := 40) (N := some 53) (v := undef) (a' := ?_) rfl rfl (any_of HT_.out (by kernel_rfl)) (fun _ _ _ h => h) (Or.inr ⟨by rfl, rfl⟩) ?_ ?_
               rotate_left; (· (simp only [Act.put, sA_, sZ_, sS_, i64_w, i32_w]; rfl))
               refine pu_ (i := 41) (N := some 54) (v := undef) (a' := ?_) rfl rfl (any_of HT_.out (by kernel_rfl)) (fun _ _ _ h => h) (Or.inr ⟨by rfl, rfl⟩) ?_ ?_; rotate_left; (· (simp only [Act.put, sA_, sZ_, sS_, i64_w, i32_w]; rfl))
               refine pu_ (i := 42) (N := some 55) (v := ?_) (a' := ?_) rfl rfl (any_of HT_.out (by kernel_rfl)) (fun _ _ _ h => h) (Or.inl ⟨by rfl, ?_⟩) ?_ ?_; rotate_left; (· (intro w'; go_simp; with_reducible rfl)); rotate_left; (· (simp only [Act.put, sA_, sZ_, sS_, i64_w, i32_w]; rfl))
               refine pu_ (i := 43) (N := some 56) (v := ?_) (a' := ?_) rfl rfl (any_of HT_.out (by kernel_rfl)) (fun _ _ _ h => h) (Or.inl ⟨by rfl, ?_⟩) ?_ ?_; rotate_left; (· (intro w'; go_simp; with_reducible rfl))
               rotate_left; (· (simp only [Act.put, sA_, sZ_, sS_, i64_w, i32_w]; rfl))
               refine done_ (done_of HT_.out (by kernel_rfl)) ?_
               try go_wp2
               go_meet
               case rel => exact ⟨_, (false), (by first | rfl | (simp; done) | (simp [*]; done)), H', ⟨by have := HK1.out; first | omega | exact Nat.le_refl _⟩, ⟨by (with_reducible repeat (first | refine blk_drewN ?_ _ | refine blk_drew ?_ | refine blk_alloc ?_ _)); exact BK177.out⟩, ⟨by (with_reducible repeat (first | refine blk_drewN ?_ _ | refine blk_drew ?_ | refine blk_alloc ?_ _)); exact BK179.out⟩, ⟨by repeat (first | (with_reducible first | exact HB.out | apply below_alloc | apply pw_below_drewN | apply below_drew1 | refine below_set ?_ GE177.out | refine below_set ?_ GE179.out) | exact HB.out)⟩⟩
              ·rw [if_neg c24] at H
               have c24b0 : (((rd_T104 l0_2 x8_1).f1) == 0) = false := beq_eq_false_iff_ne.mpr c24
               have c24b1 : (((rd_T104 l0_2 x8_1).f1) != 0) = true := bne_iff_ne.mpr c24
               have H' := Aside0.mk H
               clear H
               try go_wp2
               have n0_ : Aside0 (((((w8.setCell ⟨gb179, 0, none⟩ (.int .i64 ((rd_T104 l0_2 x8_1).f0.f0))).setCell ⟨gb179, 1, none⟩ (.int .i64 ((rd_T104 l0_2 x8_1).f0.f1))).setCell ⟨gb179, 2, none⟩ (.int .i64 ((rd_T104 l0_2 x8_1).f1))).setCell ⟨gb179, 3, none⟩ (.int .i64 ((rd_T104 l0_2 x8_1).f2))).heap[gb177]? = some (.cells #[.int .i64 a0_0, .slice A0_1 l0_1.length c0_1, .slice (some ad178) l0_2.length c0_2] 25 (0, 0))) := ⟨by (with_reducible repeat (first | refine blk_drewN ?_ _ | refine blk_drew ?_ | refine blk_alloc ?_ _)); refine blk_far ?_ NB177_179.out _; (with_reducible repeat (first | refine blk_drewN ?_ _ | refine blk_drew ?_ | refine blk_alloc ?_ _)); refine blk_far ?_ NB177_179.out _; (with_reducible repeat (first | refine blk_drewN ?_ _ | refine blk_drew ?_ | refine blk_alloc ?_ _)); refine blk_far ?_ NB177_179.out _; (with_reducible repeat (first | refine blk_drewN ?_ _ | refine blk_drew ?_ | refine blk_alloc ?_ _)); refine blk_far ?_ NB177_179.out _; (with_reducible repeat (first | refine blk_drewN ?_ _ | refine blk_drew ?_ | refine blk_alloc ?_ _)); exact BK177.out⟩
               have n1_ : Aside0 (((((w8.setCell ⟨gb179, 0, none⟩ (.int .i64 ((rd_T104 l0_2 x8_1).f0.f0))).setCell ⟨gb179, 1, none⟩ (.int .i64 ((rd_T104 l0_2 x8_1).f0.f1))).setCell ⟨gb179, 2, none⟩ (.int .i64 ((rd_T104 l0_2 x8_1).f1))).setCell ⟨gb179, 3, none⟩ (.int .i64 ((rd_T104 l0_2 x8_1).f2))).heap[gb179]? = some (.cells #[.int .i64 ((rd_T104 l0_2 x8_1).f0.f0), .int .i64 ((rd_T104 l0_2 x8_1).f0.f1), .int .i64 ((rd_T104 l0_2 x8_1).f1), .int .i64 ((rd_T104 l0_2 x8_1).f2)] 104 (0, 0))) := ⟨by (with_reducible repeat (first | refine blk_drewN ?_ _ | refine blk_drew ?_ | refine blk_alloc ?_ _)); refine blk_put (cs := #[.int .i64 ((rd_T104 l0_2 x8_1).f0.f0), .int .i64 ((rd_T104 l0_2 x8_1).f0.f1), .int .i64 ((rd_T104 l0_2 x8_1).f1), .int .i64 0]) ?_ 3 _ rfl; (with_reducible repeat (first | refine blk_drewN ?_ _ | refine blk_drew ?_ | refine blk_alloc ?_ _)); refine blk_put (cs := #[.int .i64 ((rd_T104 l0_2 x8_1).f0.f0), .int .i64 ((rd_T104 l0_2 x8_1).f0.f1), .int .i64 0, .int .i64 0]) ?_ 2 _ rfl; (with_reducible repeat (first | refine blk_drewN ?_ _ | refine blk_drew ?_ | refine blk_alloc ?_ _)); refine blk_put (cs := #[.int .i64 ((rd_T104 l0_2 x8_1).f0.f0), .int .i64 0, .int .i64 0, .int .i64 0]) ?_ 1 _ rfl; (with_reducible repeat (first | refine blk_drewN ?_ _ | refine blk_drew ?_ | refine blk_alloc ?_ _)); refine blk_put (cs := #[.int .i64 0, .int .i64 0, .int .i64 0, .int .i64 0]) ?_ 0 _ rfl; (with_reducible repeat (first | refine blk_drewN ?_ _ | refine blk_drew ?_ | refine blk_alloc ?_ _)); exact BK179.out⟩
               have n2_ : Aside0 (Below w.heap.size w ((((w8.setCell ⟨gb179, 0, none⟩ (.int .i64 ((rd_T104 l0_2 x8_1).f0.f0))).setCell ⟨gb179, 1, none⟩ (.int .i64 ((rd_T104 l0_2 x8_1).f0.f1))).setCell ⟨gb179, 2, none⟩ (.int .i64 ((rd_T104 l0_2 x8_1).f1))).setCell ⟨gb179, 3, none⟩ (.int .i64 ((rd_T104 l0_2 x8_1).f2)))) := ⟨by repeat (first | (with_reducible first | exact HB.out | apply below_alloc | apply pw_below_drewN | apply below_drew1 | refine below_set ?_ GE177.out | refine below_set ?_ GE179.out) | exact HB.out)⟩
               (try clear BK177)
               (try clear BK179)
               (try clear HB)
               generalize ((((w8.setCell ⟨gb179, 0, none⟩ (.int .i64 ((rd_T104 l0_2 x8_1).f0.f0))).setCell ⟨gb179, 1, none⟩ (.int .i64 ((rd_T104 l0_2 x8_1).f0.f1))).setCell ⟨gb179, 2, none⟩ (.int .i64 ((rd_T104 l0_2 x8_1).f1))).setCell ⟨gb179, 3, none⟩ (.int .i64 ((rd_T104 l0_2 x8_1).f2))) = w28 at n0_ n1_ n2_ ⊢
               have BK177 := n0_
               have BK179 := n1_
               have HB := n2_
               clear n0_ n1_ n2_
               have n0_ := Aside0.mk (blk_drew BK177.out)
               have n1_ := Aside0.mk (blk_drew BK179.out)
               have n2_ := Aside0.mk (below_drew1 HB.out)
               clear BK177
               clear BK179
               clear HB
               have BK177 := n0_
               have BK179 := n1_
               have HB := n2_
               clear n0_ n1_ n2_
               have p180 : 0 ≤ ((ji12) : Int) := of_decide_eq_true (by first | (with_reducible assumption) | assumption)
               have q180 : (ji12) < (l0_2.length : Int) := of_decide_eq_true (by first | (with_reducible assumption) | assumption)
               obtain ⟨ad180, e180, hx180_0, hx180_1, hx180_2, hx180_3⟩ := at_T104 HR0_2.out (ji12) p180 q180
               have hw180_3 := hx180_3
               have hw180_2 := hx180_2
               have hw180_1 := hx180_1
               have hw180_0 := hx180_0
               obtain rfl : ad178 = ad180 := (by injection e180)
               replace hx180_0 := (HB.out.cell (World.block_lt_of_cell? w _ hx180_0)).trans hx180_0
               replace hx180_1 := (HB.out.cell (World.block_lt_of_cell? w _ hx180_1)).trans hx180_1
               replace hx180_2 := (HB.out.cell (World.block_lt_of_cell? w _ hx180_2)).trans hx180_2
               replace hx180_3 := (HB.out.cell (World.block_lt_of_cell? w _ hx180_3)).trans hx180_3
               replace p180 := eq_true p180
               replace q180 := eq_true q180
               refine start_ (n := 44) (S := fun w' => w'.cell? ⟨gb177, 0, none⟩ = some (.int .i64 a0_0) ∧ w'.cell? ⟨gb177, 1, none⟩ = some (.slice A0_1 l0_1.length c0_1) ∧ w'.cell? ⟨gb177, 2, none⟩ = some (.slice (some ad178) l0_2.length c0_2) ∧ w'.cell? ⟨gb179, 0, none⟩ = some (.int .i64 ((rd_T104 l0_2 x8_1).f0.f0)) ∧ w'.cell? ⟨gb179, 1, none⟩ = some (.int .i64 ((rd_T104 l0_2 x8_1).f0.f1)) ∧ w'.cell? ⟨gb179, 2, none⟩ = some (.int .i64 ((rd_T104 l0_2 x8_1).f1)) ∧ w'.cell? ⟨gb179, 3, none⟩ = some (.int .i64 ((rd_T104 l0_2 x8_1).f2)) ∧ w'.cell? (ad178.add (((ji12)).toNat * 4)) = some (.int .i64 ((rd_T104 l0_2 (ji12)).f0.f0)) ∧ w'.cell? ⟨(ad178.add (((ji12)).toNat * 4)).block, (ad178.add (((ji12)).toNat * 4)).off + 1, none⟩ = some (.int .i64 ((rd_T104 l0_2 (ji12)).f0.f1)) ∧ w'.cell? ⟨(ad178.add (((ji12)).toNat * 4)).block, (ad178.add (((ji12)).toNat * 4)).off + 2, none⟩ = some (.int .i64 ((rd_T104 l0_2 (ji12)).f1)) ∧ w'.cell? ⟨(ad178.add (((ji12)).toNat * 4)).block, (ad178.add (((ji12)).toNat * 4)).off + 3, none⟩ = some (.int .i64 ((rd_T104 l0_2 (ji12)).f2))) (ds := []) #[false, false, false, false, false, false, false, false, false, false, false, false, false, false, false, false, false, false, false, false, false, false, false, false, false, false, false, false, false, false, false, false, false, false, false, false, false, false, false, false, false, false, false, false] (by kernel_rfl) rfl rfl ⟨(blk_cell BK177.out 0).trans rfl, (blk_cell BK177.out 1).trans rfl, (blk_cell BK177.out 2).trans rfl, (blk_cell BK179.out 0).trans rfl, (blk_cell BK179.out 1).trans rfl, (blk_cell BK179.out 2).trans rfl, (blk_cell BK179.out 3).trans rfl, ((HB.out.cell (World.block_lt_of_cell? w _ hw180_0)).trans hw180_0), ((HB.out.cell (World.block_lt_of_cell? w _ hw180_1)).trans hw180_1), ((HB.out.cell (World.block_lt_of_cell? w _ hw180_2)).trans hw180_2), ((HB.out.cell (World.block_lt_of_cell? w _ hw180_3)).trans hw180_3)⟩ (fun hHeld => ?_); refine with_tabW impl_CertOk.tab4 impl_CertOk.bits4 (fun HT_ HW_ => ?_)
               generalize w28.drew = w29 at BK177 BK179 HB hx180_0 hx180_1 hx180_2 hx180_3 hHeld ⊢
               refine pu_ (i := 0) (N := some 13) (v := ?_) (a' := ?_) rfl rfl (any_of HT_.out (by kernel_rfl)) (fun _ _ _ h => h) (Or.inl ⟨by rfl, ?_⟩) ?_ ?_; rotate_left; (· (intro w'; go_simp; with_reducible rfl)); rotate_left; (· (simp only [Act.put, sA_, sZ_, sS_, i64_w, i32_w]; rfl))
               refine pu_ (i := 1) (N := some 14) (v := ?_) (a' := ?_) rfl rfl (any_of HT_.out (by kernel_rfl)) (fun _ _ _ h => h) (Or.inl ⟨by rfl, ?_⟩) ?_ ?_; rotate_left; (· (intro w'; go_simp; with_reducible rfl))
               rotate_left; (· (simp only [Act.put, sA_, sZ_, sS_, i64_w, i32_w]; rfl))
               refine pu_ (i := 2) (N := some 15) (v := ?_) (a' := ?_) rfl rfl (any_of HT_.out (by kernel_rfl)) (fun _ _ _ h => h) (Or.inl ⟨by rfl, ?_⟩) ?_ ?_; rotate_left; (· (intro w'; go_simp; with_reducible rfl)); rotate_left; (· (simp only [Act.put, sA_, sZ_, sS_, i64_w, i32_w]; rfl))
               refine pu_ (i := 3) (N := some 16) (v := ?_) (a' := ?_) rfl rfl (any_of HT_.out (by kernel_rfl)) (fun _ _ _ h => h) (Or.inl ⟨by rfl, ?_⟩) ?_ ?_; rotate_left; (· (intro w'; go_simp; with_reducible rfl))
               rotate_left; (· (simp only [Act.put, sA_, sZ_, sS_, i64_w, i32_w]; rfl))
               refine pu_ (i := 5) (N := some 18) (v := ?_) (a' := ?_) rfl rfl (any_of HT_.out (by kernel_rfl)) (fun _ _ _ h => h) (Or.inl ⟨by rfl, ?_⟩) ?_ ?_; rotate_left; (· (intro w'; go_simp; with_reducible rfl)); rotate_left; (· (simp only [Act.put, sA_, sZ_, sS_, i64_w, i32_w]; rfl))
               refine pu_ (i := 6) (N := some 19) (v := ?_) (a' := ?_) rfl rfl (any_of HT_.out (by kernel_rfl)) (fun _ _ _ h => h) (Or.inl ⟨by rfl, ?_⟩) ?_ ?_; rotate_left; (· (intro w'; go_simp; with_reducible rfl))
               rotate_left; (· (simp only [Act.put, sA_, sZ_, sS_, i64_w, i32_w]; rfl))
               refine pu_ (i := 11) (N := some 24) (v := ?_) (a' := ?_) rfl rfl (any_of HT_.out (by kernel_rfl)) (fun _ _ _ h => h) (Or.inl ⟨by rfl, ?_⟩) ?_ ?_; rotate_left; (· (intro w'; go_simp; with_reducible rfl)); rotate_left; (· (simp only [Act.put, sA_, sZ_, sS_, i64_w, i32_w]; rfl))
               refine pu_ (i := 12) (N := some 25) (v := ?_) (a' := ?_) rfl rfl (any_of HT_.out (by kernel_rfl)) (fun _ _ _ h => h) (Or.inl ⟨by rfl, ?_⟩) ?_ ?_; rotate_left; (· (intro w'; go_simp; with_reducible rfl))
               rotate_left; (· (simp only [Act.put, sA_, sZ_, sS_, i64_w, i32_w]; rfl))
               refine ta_ (i := 4) (N := some 17) (v := ?_) (a' := ?_) rfl rfl (take_ofW HT_.out HW_.out (by kernel_rfl)) (fun _ _ _ h => h) (Or.inl ⟨by rfl, ?_⟩) hHeld ?_ ?_
               rotate_left
               ·rintro w' ⟨s0, s1, s2, s3, s4, s5, s6, s7, s8, s9, s10⟩
                go_simp
                with_reducible rfl
               rotate_left; (· (simp only [Act.put, sA_, sZ_, sS_, i64_w, i32_w]; rfl))
               refine pu_ (i := 7) (N := some 20) (v := ?_) (a' := ?_) rfl rfl (any_of HT_.out (by kernel_rfl)) (fun _ _ _ h => h) (Or.inl ⟨by rfl, ?_⟩) ?_ ?_; rotate_left; (· (intro w'; go_simp; with_reducible rfl)); rotate_left; (· (simp only [Act.put, sA_, sZ_, sS_, i64_w, i32_w]; rfl))
               refine pu_ (i := 8) (N := some 21) (v := ?_) (a' := ?_) rfl rfl (any_of HT_.out (by kernel_rfl)) (fun _ _ _ h => h) (Or.inl ⟨by rfl, ?_⟩) ?_ ?_; rotate_left; (· (intro w'; go_simp; with_reducible rfl))
               rotate_left; (· (simp only [Act.put, sA_, sZ_, sS_, i64_w, i32_w]; rfl))
               refine pu_ (i := 9) (N := some 22) (v := ?_) (a' := ?_) rfl rfl (any_of HT_.out (by kernel_rfl)) (fun _ _ _ h => h) (Or.inl ⟨by rfl, ?_⟩) ?_ ?_; rotate_left; (· (intro w'; go_simp; with_reducible rfl)); rotate_left; (· (simp only [Act.put, sA_, sZ_, sS_, i64_w, i32_w]; rfl))
               refine ta_ (i := 10) (N := some 23) (v := ?_) (a' := ?_) rfl rfl (take_ofW HT_.out HW_.out (by kernel_rfl)) (fun _ _ _ h => h) (Or.inl ⟨by rfl, ?_⟩) hHeld ?_ ?_
               rotate_left
               ·rintro w' ⟨s0, s1, s2, s3, s4, s5, s6, s7, s8, s9, s10⟩
                go_simp
                with_reducible rfl
               rotate_left; (· (simp only [Act.put, sA_, sZ_, sS_, i64_w, i32_w]; rfl))
               refine ta_ (i := 13) (N := some 26) (v := ?_) (a' := ?_) rfl rfl (take_ofW HT_.out HW_.out (by kernel_rfl)) (fun _ _ _ h => h) (Or.inl ⟨by rfl, ?_⟩) hHeld ?_ ?_
               rotate_left
               ·rintro w' ⟨s0, s1, s2, s3, s4, s5, s6, s7, s8, s9, s10⟩
                go_simp
                with_reducible rfl
               rotate_left; (· (simp only [Act.put, sA_, sZ_, sS_, i64_w, i32_w]; rfl))
               refine pu_ (i := 14) (N := some 27) (v := ?_) (a' := ?_) rfl rfl (any_of HT_.out (by kernel_rfl)) (fun _ _ _ h => h) (Or.inl ⟨by rfl, ?_⟩) ?_ ?_; rotate_left; (· (intro w'; go_simp; with_reducible rfl)); rotate_left; (· (simp only [Act.put, sA_, sZ_, sS_, i64_w, i32_w]; rfl))
               refine pu_ (i := 15) (N := some 28) (v := ?_) (a' := ?_) rfl rfl (any_of HT_.out (by kernel_rfl)) (fun _ _ _ h => h) (Or.inl ⟨by rfl, ?_⟩) ?_ ?_; rotate_left; (· (intro w'; go_simp; with_reducible rfl))
               rotate_left; (· (simp only [Act.put, sA_, sZ_, sS_, i64_w, i32_w]; rfl))
               refine pu_ (i := 16) (N := some 29) (v := ?_) (a' := ?_) rfl rfl (any_of HT_.out (by kernel_rfl)) (fun _ _ _ h => h) (Or.inl ⟨by rfl, ?_⟩) ?_ ?_; rotate_left; (· (intro w'; go_simp; with_reducible rfl)); rotate_left; (· (simp only [Act.put, sA_, sZ_, sS_, i64_w, i32_w]; rfl))
               refine pu_ (i := 17) (N := some 30) (v := ?_) (a' := ?_) rfl rfl (any_of HT_.out (by kernel_rfl)) (fun _ _ _ h => h) (Or.inl ⟨by rfl, ?_⟩) ?_ ?_; rotate_left; (· (intro w'; go_simp; with_reducible rfl))
               rotate_left; (· (simp only [Act.put, sA_, sZ_, sS_, i64_w, i32_w]; rfl))
               refine ta_ (i := 18) (N := some 31) (v := ?_) (a' := ?_) rfl rfl (take_ofW HT_.out HW_.out (by kernel_rfl)) (fun _ _ _ h => h) (Or.inl ⟨by rfl, ?_⟩) hHeld ?_ ?_
               rotate_left
               ·rintro w' ⟨s0, s1, s2, s3, s4, s5, s6, s7, s8, s9, s10⟩
                go_simp
                with_reducible rfl
               rotate_left; (· (simp only [Act.put, sA_, sZ_, sS_, i64_w, i32_w]; rfl))
               refine on_ (i := 19) (N := some 32) rfl rfl (one_of HT_.out (by kernel_rfl)) (by decide) (fun K hK => ?_)
               refine goes_ Try.func91 (by kernel_rfl) rfl #[.agg #[.int .i64 ((rd_T104 l0_2 x8_1).f0.f0), .int .i64 ((rd_T104 l0_2 x8_1).f0.f1)]] (by rfl) rfl rfl (by (try simp only [List.map_toArray, List.map_cons, List.map_nil]); first | done | rfl | (simp only [List.length_drop, List.length_take]; rfl)) ?_
               with_reducible refine (impl_reqOk.calls ((rd_T104 l0_2 x8_1).f0.f0) ((rd_T104 l0_2 x8_1).f0.f1) true _ A18.out).mono ?_
               rintro e w30 ⟨rfl, hb⟩
               refine ⟨_, rfl, ?_⟩
               have n0_ := Aside0.mk (blk_below (g := gb177) (o := .cells #[.int .i64 a0_0, .slice A0_1 l0_1.length c0_1, .slice (some ad178) l0_2.length c0_2] 25 (0, 0)) (by (with_reducible repeat (first | refine blk_drewN ?_ _ | refine blk_drew ?_ | refine blk_alloc ?_ _)); exact BK177.out) hb)
               have n1_ := Aside0.mk (blk_below (g := gb179) (o := .cells #[.int .i64 ((rd_T104 l0_2 x8_1).f0.f0), .int .i64 ((rd_T104 l0_2 x8_1).f0.f1), .int .i64 ((rd_T104 l0_2 x8_1).f1), .int .i64 ((rd_T104 l0_2 x8_1).f2)] 104 (0, 0)) (by (with_reducible repeat (first | refine blk_drewN ?_ _ | refine blk_drew ?_ | refine blk_alloc ?_ _)); exact BK179.out) hb)
               have n2_ := Aside0.mk (below_step (by repeat (first | (with_reducible first | exact HB.out | apply below_alloc | apply pw_below_drewN | apply below_drew1 | refine below_set ?_ GE177.out | refine below_set ?_ GE179.out) | exact HB.out)) hb)
               clear BK177
               clear BK179
               clear HB
               have BK177 := n0_
               have BK179 := n1_
               have HB := n2_
               clear n0_ n1_ n2_
               (try clear hb)
               (try clear hb2)
               (try clear hk)
               (try clear hi)
               refine hK.out _ _ ⟨(blk_cell BK177.out 0).trans rfl, (blk_cell BK177.out 1).trans rfl, (blk_cell BK177.out 2).trans rfl, (blk_cell BK179.out 0).trans rfl, (blk_cell BK179.out 1).trans rfl, (blk_cell BK179.out 2).trans rfl, (blk_cell BK179.out 3).trans rfl, ((HB.out.cell (World.block_lt_of_cell? w _ hw180_0)).trans hw180_0), ((HB.out.cell (World.block_lt_of_cell? w _ hw180_1)).trans hw180_1), ((HB.out.cell (World.block_lt_of_cell? w _ hw180_2)).trans hw180_2), ((HB.out.cell (World.block_lt_of_cell? w _ hw180_3)).trans hw180_3)⟩ (fun hHeld => ?_)
               clear hK K
               refine norm_ (a' := ?_) ?_ ?_
               rotate_left
               ·show Act.put _ (some 32) _ = _
                simp only [Act.put, sA_, sZ_, sS_, i64_w, i32_w]
                rfl
               refine pu_ (i := 20) (N := some 33) (v := ?_) (a' := ?_) rfl rfl (any_of HT_.out (by kernel_rfl)) (fun _ _ _ h => h) (Or.inl ⟨by rfl, ?_⟩) ?_ ?_; rotate_left; (· (intro w'; go_simp; with_reducible rfl)); rotate_left; (· (simp only [Act.put, sA_, sZ_, sS_, i64_w, i32_w]; rfl))
               refine pu_ (i := 21) (N := some 34) (v := ?_) (a' := ?_) rfl rfl (any_of HT_.out (by kernel_rfl)) (fun _ _ _ h => h) (Or.inl ⟨by rfl, ?_⟩) ?_ ?_; rotate_left; (· (intro w'; go_simp; with_reducible rfl))
               rotate_left; (· (simp only [Act.put, sA_, sZ_, sS_, i64_w, i32_w]; rfl))
               refine pu_ (i := 22) (N := some 35) (v := ?_) (a' := ?_) rfl rfl (any_of HT_.out (by kernel_rfl)) (fun _ _ _ h => h) (Or.inl ⟨by rfl, ?_⟩) ?_ ?_; rotate_left; (· (intro w'; go_simp; with_reducible rfl)); rotate_left; (· (simp only [Act.put, sA_, sZ_, sS_, i64_w, i32_w]; rfl))
               refine pu_ (i := 23) (N := some 36) (v := ?_) (a' := ?_) rfl rfl (any_of HT_.out (by kernel_rfl)) (fun _ _ _ h => h) (Or.inl ⟨by rfl, ?_⟩) ?_ ?_; rotate_left; (· (intro w'; go_simp; with_reducible rfl))
               rotate_left; (· (simp only [Act.put, sA_, sZ_, sS_, i64_w, i32_w]; rfl))
               refine ta_ (i := 24) (N := some 37) (v := ?_) (a' := ?_) rfl rfl (take_ofW HT_.out HW_.out (by kernel_rfl)) (fun _ _ _ h => h) (Or.inl ⟨by rfl, ?_⟩) hHeld ?_ ?_
               rotate_left
               ·rintro w' ⟨s0, s1, s2, s3, s4, s5, s6, s7, s8, s9, s10⟩
                go_simp
                with_reducible rfl
               rotate_left; (· (simp only [Act.put, sA_, sZ_, sS_, i64_w, i32_w]; rfl))
               refine on_ (i := 25) (N := some 38) rfl rfl (one_of HT_.out (by kernel_rfl)) (by decide) (fun K hK => ?_)
               refine goes_ Try.func78 (by kernel_rfl) rfl #[.int .i64 ((rd_T104 l0_2 x8_1).f1), .int .i64 0, .int .i64 2] (by rfl) rfl rfl (by (try simp only [List.map_toArray, List.map_cons, List.map_nil]); first | done | rfl | (simp only [List.length_drop, List.length_take]; rfl)) ?_
               with_reducible refine (impl_in.calls ((rd_T104 l0_2 x8_1).f1) 0 2 true _ A20.out).mono ?_
               rintro e w' ⟨rfl, ⟨nd, rfl⟩⟩
               refine ⟨_, rfl, ?_⟩
               refine hK.out _ _ ⟨(blk_cell BK177.out 0).trans rfl, (blk_cell BK177.out 1).trans rfl, (blk_cell BK177.out 2).trans rfl, (blk_cell BK179.out 0).trans rfl, (blk_cell BK179.out 1).trans rfl, (blk_cell BK179.out 2).trans rfl, (blk_cell BK179.out 3).trans rfl, ((HB.out.cell (World.block_lt_of_cell? w _ hw180_0)).trans hw180_0), ((HB.out.cell (World.block_lt_of_cell? w _ hw180_1)).trans hw180_1), ((HB.out.cell (World.block_lt_of_cell? w _ hw180_2)).trans hw180_2), ((HB.out.cell (World.block_lt_of_cell? w _ hw180_3)).trans hw180_3)⟩ (fun hHeld => ?_)
               clear hK K
               refine norm_ (a' := ?_) ?_ ?_
               rotate_left
               ·show Act.put _ (some 38) _ = _
                simp only [Act.put, sA_, sZ_, sS_, i64_w, i32_w]
                rfl
               refine pu_ (i := 26) (N := some 39) (v := ?_) (a' := ?_) rfl rfl (any_of HT_.out (by kernel_rfl)) (fun _ _ _ h => h) (Or.inl ⟨by rfl, ?_⟩) ?_ ?_; rotate_left; (· (intro w'; go_simp; with_reducible rfl)); rotate_left; (· (simp only [Act.put, sA_, sZ_, sS_, i64_w, i32_w]; rfl))
               refine pu_ (i := 27) (N := some 40) (v := ?_) (a' := ?_) rfl rfl (any_of HT_.out (by kernel_rfl)) (fun _ _ _ h => h) (Or.inl ⟨by rfl, ?_⟩) ?_ ?_; rotate_left; (· (intro w'; go_simp; with_reducible rfl))
               rotate_left; (· (simp only [Act.put, sA_, sZ_, sS_, i64_w, i32_w]; rfl))
               refine pu_ (i := 28) (N := some 41) (v := ?_) (a' := ?_) rfl rfl (any_of HT_.out (by kernel_rfl)) (fun _ _ _ h => h) (Or.inl ⟨by rfl, ?_⟩) ?_ ?_; rotate_left; (· (intro w'; go_simp; with_reducible rfl)); rotate_left; (· (simp only [Act.put, sA_, sZ_, sS_, i64_w, i32_w]; rfl))
               refine pu_ (i := 29) (N := some 42) (v := ?_) (a' := ?_) rfl rfl (any_of HT_.out (by kernel_rfl)) (fun _ _ _ h => h) (Or.inl ⟨by rfl, ?_⟩) ?_ ?_; rotate_left; (· (intro w'; go_simp; with_reducible rfl))
               rotate_left; (· (simp only [Act.put, sA_, sZ_, sS_, i64_w, i32_w]; rfl))
               refine ta_ (i := 30) (N := some 43) (v := ?_) (a' := ?_) rfl rfl (take_ofW HT_.out HW_.out (by kernel_rfl)) (fun _ _ _ h => h) (Or.inl ⟨by rfl, ?_⟩) hHeld ?_ ?_
               rotate_left
               ·rintro w' ⟨s0, s1, s2, s3, s4, s5, s6, s7, s8, s9, s10⟩
                go_simp
                with_reducible rfl
               rotate_left; (· (simp only [Act.put, sA_, sZ_, sS_, i64_w, i32_w]; rfl))
               refine on_ (i := 31) (N := some 44) rfl rfl (one_of HT_.out (by kernel_rfl)) (by decide) (fun K hK => ?_)
               refine goes_ Try.func78 (by kernel_rfl) rfl #[.int .i64 ((rd_T104 l0_2 x8_1).f2), .int .i64 (-1000000), .int .i64 1000000] (by rfl) rfl rfl (by (try simp only [List.map_toArray, List.map_cons, List.map_nil]); first | done | rfl | (simp only [List.length_drop, List.length_take]; rfl)) ?_
               with_reducible refine (impl_in.calls ((rd_T104 l0_2 x8_1).f2) (-1000000) 1000000 true _ A22.out).mono ?_
               rintro e w' ⟨rfl, ⟨nd, rfl⟩⟩
               refine ⟨_, rfl, ?_⟩
               refine hK.out _ _ ⟨(blk_cell BK177.out 0).trans rfl, (blk_cell BK177.out 1).trans rfl, (blk_cell BK177.out 2).trans rfl, (blk_cell BK179.out 0).trans rfl, (blk_cell BK179.out 1).trans rfl, (blk_cell BK179.out 2).trans rfl, (blk_cell BK179.out 3).trans rfl, ((HB.out.cell (World.block_lt_of_cell? w _ hw180_0)).trans hw180_0), ((HB.out.cell (World.block_lt_of_cell? w _ hw180_1)).trans hw180_1), ((HB.out.cell (World.block_lt_of_cell? w _ hw180_2)).trans hw180_2), ((HB.out.cell (World.block_lt_of_cell? w _ hw180_3)).trans hw180_3)⟩ (fun hHeld => ?_)
               clear hK K
               refine norm_ (a' := ?_) ?_ ?_
               rotate_left
               ·show Act.put _ (some 44) _ = _
                simp only [Act.put, sA_, sZ_, sS_, i64_w, i32_w]
                rfl
               refine pu_ (i := 32) (N := some 45) (v := ?_) (a' := ?_) rfl rfl (any_of HT_.out (by kernel_rfl)) (fun _ _ _ h => h) (Or.inl ⟨by rfl, ?_⟩) ?_ ?_; rotate_left; (· (intro w'; go_simp; with_reducible rfl)); rotate_left; (· (simp only [Act.put, sA_, sZ_, sS_, i64_w, i32_w]; rfl))
               refine pu_ (i := 33) (N := some 46) (v := ?_) (a' := ?_) rfl rfl (any_of HT_.out (by kernel_rfl)) (fun _ _ _ h => h) (Or.inl ⟨by rfl, ?_⟩) ?_ ?_; rotate_left; (· (intro w'; go_simp; with_reducible rfl))
               rotate_left; (· (simp only [Act.put, sA_, sZ_, sS_, i64_w, i32_w]; rfl))
               refine pu_ (i := 34) (N := some 47) (v := ?_) (a' := ?_) rfl rfl (any_of HT_.out (by kernel_rfl)) (fun _ _ _ h => h) (Or.inl ⟨by rfl, ?_⟩) ?_ ?_; rotate_left; (· (intro w'; go_simp; with_reducible rfl)); rotate_left; (· (simp only [Act.put, sA_, sZ_, sS_, i64_w, i32_w]; rfl))
               refine pu_ (i := 35) (N := some 48) (v := ?_) (a' := ?_) rfl rfl (any_of HT_.out (by kernel_rfl)) (fun _ _ _ h => h) (Or.inl ⟨by rfl, ?_⟩) ?_ ?_; rotate_left; (· (intro w'; go_simp; with_reducible rfl))
               rotate_left; (· (simp only [Act.put, sA_, sZ_, sS_, i64_w, i32_w]; rfl))
               refine ta_ (i := 36) (N := some 49) (v := ?_) (a' := ?_) rfl rfl (take_ofW HT_.out HW_.out (by kernel_rfl)) (fun _ _ _ h => h) (Or.inl ⟨by rfl, ?_⟩) hHeld ?_ ?_
               rotate_left
               ·rintro w' ⟨s0, s1, s2, s3, s4, s5, s6, s7, s8, s9, s10⟩
                go_simp
                with_reducible rfl
               rotate_left; (· (simp only [Act.put, sA_, sZ_, sS_, i64_w, i32_w]; rfl))
               refine pu_ (i := 37) (N := some 50) (v := ?_) (a' := ?_) rfl rfl (any_of HT_.out (by kernel_rfl)) (fun _ _ _ h => h) (Or.inl ⟨by rfl, ?_⟩) ?_ ?_; rotate_left; (· (intro w'; go_simp; with_reducible rfl)); rotate_left; (· (simp only [Act.put, sA_, sZ_, sS_, i64_w, i32_w]; rfl))
               refine pu_ (i := 38) (N := some 51) (v := ?_) (a' := ?_) rfl rfl (any_of HT_.out (by kernel_rfl)) (fun _ _ _ h => h) (Or.inl ⟨by rfl, ?_⟩) ?_ ?_; rotate_left; (· (intro w'; go_simp; with_reducible rfl))
               rotate_left; (· (simp only [Act.put, sA_, sZ_, sS_, i64_w, i32_w]; rfl))
               refine pu_ (i := 39) (N := some 52) (v := ?_) (a' := ?_) rfl rfl (any_of HT_.out (by kernel_rfl)) (fun _ _ _ h => h) (Or.inl ⟨by rfl, ?_⟩) ?_ ?_; rotate_left; (· (intro w'; go_simp; with_reducible rfl)); rotate_left; (· (simp only [Act.put, sA_, sZ_, sS_, i64_w, i32_w]; rfl))
               refine ta_ (i := 40) (N := some 53) (v := ?_) (a' := ?_) rfl rfl (take_ofW HT_.out HW_.out (by kernel_rfl)) (fun _ _ _ h => h) (Or.inl ⟨by rfl, ?_⟩) hHeld ?_ ?_
               rotate_left
               ·rintro w' ⟨s0, s1, s2, s3, s4, s5, s6, s7, s8, s9, s10⟩
                go_simp
                with_reducible rfl
               rotate_left; (· (simp only [Act.put, sA_, sZ_, sS_, i64_w, i32_w]; rfl))
               refine pu_ (i := 41) (N := some 54) (v := ?_) (a' := ?_) rfl rfl (any_of HT_.out (by kernel_rfl)) (fun _ _ _ h => h) (Or.inl ⟨by rfl, ?_⟩) ?_ ?_; rotate_left; (· (intro w'; go_simp; with_reducible rfl)); rotate_left; (· (simp only [Act.put, sA_, sZ_, sS_, i64_w, i32_w]; rfl))
               refine pu_ (i := 42) (N := some 55) (v := ?_) (a' := ?_) rfl rfl (any_of HT_.out (by kernel_rfl)) (fun _ _ _ h => h) (Or.inl ⟨by rfl, ?_⟩) ?_ ?_; rotate_left; (· (intro w'; go_simp; with_reducible rfl))
               rotate_left; (· (simp only [Act.put, sA_, sZ_, sS_, i64_w, i32_w]; rfl))
               refine pu_ (i := 43) (N := some 56) (v := ?_) (a' := ?_) rfl rfl (any_of HT_.out (by kernel_rfl)) (fun _ _ _ h => h) (Or.inl ⟨by rfl, ?_⟩) ?_ ?_; rotate_left; (· (intro w'; go_simp; with_reducible rfl)); rotate_left; (· (simp only [Act.put, sA_, sZ_, sS_, i64_w, i32_w]; rfl))
               refine done_ (done_of HT_.out (by kernel_rfl)) ?_
               try go_wp2
               go_meet
               case rel => exact ⟨_, ((((rd_T104 l0_2 x8_1).f2) != 0)), (by first | rfl | (simp; done) | (simp [*]; done)), H', ⟨by have := HK1.out; first | omega | exact Nat.le_refl _⟩, ⟨by (with_reducible repeat (first | refine blk_drewN ?_ _ | refine blk_drew ?_ | refine blk_alloc ?_ _)); exact BK177.out⟩, ⟨by (with_reducible repeat (first | refine blk_drewN ?_ _ | refine blk_drew ?_ | refine blk_alloc ?_ _)); exact BK179.out⟩, ⟨by repeat (first | (with_reducible first | exact HB.out | apply below_alloc | apply pw_below_drewN | apply below_drew1 | refine below_set ?_ GE177.out | refine below_set ?_ GE179.out) | exact HB.out)⟩⟩
             ·replace c23 := Bool.eq_false_iff.mpr c23
              subst c23
              have H1 : (impl_CertOk.j1 k1 l0_2 (l0_2.length : Int) x8_1 true a0_0 l0_1 l0_2) = some r := by rw [if_neg (show ¬ (false = true) by decide)] at H; exact H
              clear H
              have H := H1
              clear H1
              have H' := Aside0.mk H
              clear H
              try go_wp2
              have n0_ : Aside0 (((((w8.setCell ⟨gb179, 0, none⟩ (.int .i64 ((rd_T104 l0_2 x8_1).f0.f0))).setCell ⟨gb179, 1, none⟩ (.int .i64 ((rd_T104 l0_2 x8_1).f0.f1))).setCell ⟨gb179, 2, none⟩ (.int .i64 ((rd_T104 l0_2 x8_1).f1))).setCell ⟨gb179, 3, none⟩ (.int .i64 ((rd_T104 l0_2 x8_1).f2))).heap[gb177]? = some (.cells #[.int .i64 a0_0, .slice A0_1 l0_1.length c0_1, .slice (some ad178) l0_2.length c0_2] 25 (0, 0))) := ⟨by (with_reducible repeat (first | refine blk_drewN ?_ _ | refine blk_drew ?_ | refine blk_alloc ?_ _)); refine blk_far ?_ NB177_179.out _; (with_reducible repeat (first | refine blk_drewN ?_ _ | refine blk_drew ?_ | refine blk_alloc ?_ _)); refine blk_far ?_ NB177_179.out _; (with_reducible repeat (first | refine blk_drewN ?_ _ | refine blk_drew ?_ | refine blk_alloc ?_ _)); refine blk_far ?_ NB177_179.out _; (with_reducible repeat (first | refine blk_drewN ?_ _ | refine blk_drew ?_ | refine blk_alloc ?_ _)); refine blk_far ?_ NB177_179.out _; (with_reducible repeat (first | refine blk_drewN ?_ _ | refine blk_drew ?_ | refine blk_alloc ?_ _)); exact BK177.out⟩
              have n1_ : Aside0 (((((w8.setCell ⟨gb179, 0, none⟩ (.int .i64 ((rd_T104 l0_2 x8_1).f0.f0))).setCell ⟨gb179, 1, none⟩ (.int .i64 ((rd_T104 l0_2 x8_1).f0.f1))).setCell ⟨gb179, 2, none⟩ (.int .i64 ((rd_T104 l0_2 x8_1).f1))).setCell ⟨gb179, 3, none⟩ (.int .i64 ((rd_T104 l0_2 x8_1).f2))).heap[gb179]? = some (.cells #[.int .i64 ((rd_T104 l0_2 x8_1).f0.f0), .int .i64 ((rd_T104 l0_2 x8_1).f0.f1), .int .i64 ((rd_T104 l0_2 x8_1).f1), .int .i64 ((rd_T104 l0_2 x8_1).f2)] 104 (0, 0))) := ⟨by (with_reducible repeat (first | refine blk_drewN ?_ _ | refine blk_drew ?_ | refine blk_alloc ?_ _)); refine blk_put (cs := #[.int .i64 ((rd_T104 l0_2 x8_1).f0.f0), .int .i64 ((rd_T104 l0_2 x8_1).f0.f1), .int .i64 ((rd_T104 l0_2 x8_1).f1), .int .i64 0]) ?_ 3 _ rfl; (with_reducible repeat (first | refine blk_drewN ?_ _ | refine blk_drew ?_ | refine blk_alloc ?_ _)); refine blk_put (cs := #[.int .i64 ((rd_T104 l0_2 x8_1).f0.f0), .int .i64 ((rd_T104 l0_2 x8_1).f0.f1), .int .i64 0, .int .i64 0]) ?_ 2 _ rfl; (with_reducible repeat (first | refine blk_drewN ?_ _ | refine blk_drew ?_ | refine blk_alloc ?_ _)); refine blk_put (cs := #[.int .i64 ((rd_T104 l0_2 x8_1).f0.f0), .int .i64 0, .int .i64 0, .int .i64 0]) ?_ 1 _ rfl; (with_reducible repeat (first | refine blk_drewN ?_ _ | refine blk_drew ?_ | refine blk_alloc ?_ _)); refine blk_put (cs := #[.int .i64 0, .int .i64 0, .int .i64 0, .int .i64 0]) ?_ 0 _ rfl; (with_reducible repeat (first | refine blk_drewN ?_ _ | refine blk_drew ?_ | refine blk_alloc ?_ _)); exact BK179.out⟩
              have n2_ : Aside0 (Below w.heap.size w ((((w8.setCell ⟨gb179, 0, none⟩ (.int .i64 ((rd_T104 l0_2 x8_1).f0.f0))).setCell ⟨gb179, 1, none⟩ (.int .i64 ((rd_T104 l0_2 x8_1).f0.f1))).setCell ⟨gb179, 2, none⟩ (.int .i64 ((rd_T104 l0_2 x8_1).f1))).setCell ⟨gb179, 3, none⟩ (.int .i64 ((rd_T104 l0_2 x8_1).f2)))) := ⟨by repeat (first | (with_reducible first | exact HB.out | apply below_alloc | apply pw_below_drewN | apply below_drew1 | refine below_set ?_ GE177.out | refine below_set ?_ GE179.out) | exact HB.out)⟩
              (try clear BK177)
              (try clear BK179)
              (try clear HB)
              generalize ((((w8.setCell ⟨gb179, 0, none⟩ (.int .i64 ((rd_T104 l0_2 x8_1).f0.f0))).setCell ⟨gb179, 1, none⟩ (.int .i64 ((rd_T104 l0_2 x8_1).f0.f1))).setCell ⟨gb179, 2, none⟩ (.int .i64 ((rd_T104 l0_2 x8_1).f1))).setCell ⟨gb179, 3, none⟩ (.int .i64 ((rd_T104 l0_2 x8_1).f2))) = w31 at n0_ n1_ n2_ ⊢
              have BK177 := n0_
              have BK179 := n1_
              have HB := n2_
              clear n0_ n1_ n2_
              have n0_ := Aside0.mk (blk_drew BK177.out)
              have n1_ := Aside0.mk (blk_drew BK179.out)
              have n2_ := Aside0.mk (below_drew1 HB.out)
              clear BK177
              clear BK179
              clear HB
              have BK177 := n0_
              have BK179 := n1_
              have HB := n2_
              clear n0_ n1_ n2_
              have p180 : 0 ≤ ((ji12) : Int) := of_decide_eq_true (by first | (with_reducible assumption) | assumption)
              have q180 : (ji12) < (l0_2.length : Int) := of_decide_eq_true (by first | (with_reducible assumption) | assumption)
              obtain ⟨ad180, e180, hx180_0, hx180_1, hx180_2, hx180_3⟩ := at_T104 HR0_2.out (ji12) p180 q180
              have hw180_3 := hx180_3
              have hw180_2 := hx180_2
              have hw180_1 := hx180_1
              have hw180_0 := hx180_0
              obtain rfl : ad178 = ad180 := (by injection e180)
              replace hx180_0 := (HB.out.cell (World.block_lt_of_cell? w _ hx180_0)).trans hx180_0
              replace hx180_1 := (HB.out.cell (World.block_lt_of_cell? w _ hx180_1)).trans hx180_1
              replace hx180_2 := (HB.out.cell (World.block_lt_of_cell? w _ hx180_2)).trans hx180_2
              replace hx180_3 := (HB.out.cell (World.block_lt_of_cell? w _ hx180_3)).trans hx180_3
              replace p180 := eq_true p180
              replace q180 := eq_true q180
              refine start_ (n := 44) (S := fun w' => w'.cell? ⟨gb177, 0, none⟩ = some (.int .i64 a0_0) ∧ w'.cell? ⟨gb177, 1, none⟩ = some (.slice A0_1 l0_1.length c0_1) ∧ w'.cell? ⟨gb177, 2, none⟩ = some (.slice (some ad178) l0_2.length c0_2) ∧ w'.cell? ⟨gb179, 0, none⟩ = some (.int .i64 ((rd_T104 l0_2 x8_1).f0.f0)) ∧ w'.cell? ⟨gb179, 1, none⟩ = some (.int .i64 ((rd_T104 l0_2 x8_1).f0.f1)) ∧ w'.cell? ⟨gb179, 2, none⟩ = some (.int .i64 ((rd_T104 l0_2 x8_1).f1)) ∧ w'.cell? ⟨gb179, 3, none⟩ = some (.int .i64 ((rd_T104 l0_2 x8_1).f2)) ∧ w'.cell? (ad178.add (((ji12)).toNat * 4)) = some (.int .i64 ((rd_T104 l0_2 (ji12)).f0.f0)) ∧ w'.cell? ⟨(ad178.add (((ji12)).toNat * 4)).block, (ad178.add (((ji12)).toNat * 4)).off + 1, none⟩ = some (.int .i64 ((rd_T104 l0_2 (ji12)).f0.f1)) ∧ w'.cell? ⟨(ad178.add (((ji12)).toNat * 4)).block, (ad178.add (((ji12)).toNat * 4)).off + 2, none⟩ = some (.int .i64 ((rd_T104 l0_2 (ji12)).f1)) ∧ w'.cell? ⟨(ad178.add (((ji12)).toNat * 4)).block, (ad178.add (((ji12)).toNat * 4)).off + 3, none⟩ = some (.int .i64 ((rd_T104 l0_2 (ji12)).f2))) (ds := []) #[false, false, false, false, false, false, false, false, false, false, false, false, false, false, false, false, false, false, false, false, false, false, false, false, false, false, false, false, false, false, false, false, false, false, false, false, false, false, false, false, false, false, false, false] (by kernel_rfl) rfl rfl ⟨(blk_cell BK177.out 0).trans rfl, (blk_cell BK177.out 1).trans rfl, (blk_cell BK177.out 2).trans rfl, (blk_cell BK179.out 0).trans rfl, (blk_cell BK179.out 1).trans rfl, (blk_cell BK179.out 2).trans rfl, (blk_cell BK179.out 3).trans rfl, ((HB.out.cell (World.block_lt_of_cell? w _ hw180_0)).trans hw180_0), ((HB.out.cell (World.block_lt_of_cell? w _ hw180_1)).trans hw180_1), ((HB.out.cell (World.block_lt_of_cell? w _ hw180_2)).trans hw180_2), ((HB.out.cell (World.block_lt_of_cell? w _ hw180_3)).trans hw180_3)⟩ (fun hHeld => ?_); refine with_tabW impl_CertOk.tab4 impl_CertOk.bits4 (fun HT_ HW_ => ?_)
              generalize w31.drew = w32 at BK177 BK179 HB hx180_0 hx180_1 hx180_2 hx180_3 hHeld ⊢
              refine pu_ (i := 0) (N := some 13) (v := ?_) (a' := ?_) rfl rfl (any_of HT_.out (by kernel_rfl)) (fun _ _ _ h => h) (Or.inl ⟨by rfl, ?_⟩) ?_ ?_; rotate_left; (· (intro w'; go_simp; with_reducible rfl)); rotate_left; (· (simp only [Act.put, sA_, sZ_, sS_, i64_w, i32_w]; rfl))
              refine pu_ (i := 1) (N := some 14) (v := ?_) (a' := ?_) rfl rfl (any_of HT_.out (by kernel_rfl)) (fun _ _ _ h => h) (Or.inl ⟨by rfl, ?_⟩) ?_ ?_; rotate_left; (· (intro w'; go_simp; with_reducible rfl))
              rotate_left; (· (simp only [Act.put, sA_, sZ_, sS_, i64_w, i32_w]; rfl))
              refine pu_ (i := 2) (N := some 15) (v := ?_) (a' := ?_) rfl rfl (any_of HT_.out (by kernel_rfl)) (fun _ _ _ h => h) (Or.inl ⟨by rfl, ?_⟩) ?_ ?_; rotate_left; (· (intro w'; go_simp; with_reducible rfl)); rotate_left; (· (simp only [Act.put, sA_, sZ_, sS_, i64_w, i32_w]; rfl))
              refine pu_ (i := 3) (N := some 16) (v := ?_) (a' := ?_) rfl rfl (any_of HT_.out (by kernel_rfl)) (fun _ _ _ h => h) (Or.inl ⟨by rfl, ?_⟩) ?_ ?_; rotate_left; (· (intro w'; go_simp; with_reducible rfl))
              rotate_left; (· (simp only [Act.put, sA_, sZ_, sS_, i64_w, i32_w]; rfl))
              refine pu_ (i := 5) (N := some 18) (v := ?_) (a' := ?_) rfl rfl (any_of HT_.out (by kernel_rfl)) (fun _ _ _ h => h) (Or.inl ⟨by rfl, ?_⟩) ?_ ?_; rotate_left; (· (intro w'; go_simp; with_reducible rfl)); rotate_left; (· (simp only [Act.put, sA_, sZ_, sS_, i64_w, i32_w]; rfl))
              refine pu_ (i := 6) (N := some 19) (v := ?_) (a' := ?_) rfl rfl (any_of HT_.out (by kernel_rfl)) (fun _ _ _ h => h) (Or.inl ⟨by rfl, ?_⟩) ?_ ?_; rotate_left; (· (intro w'; go_simp; with_reducible rfl))
              rotate_left; (· (simp only [Act.put, sA_, sZ_, sS_, i64_w, i32_w]; rfl))
              refine pu_ (i := 11) (N := some 24) (v := ?_) (a' := ?_) rfl rfl (any_of HT_.out (by kernel_rfl)) (fun _ _ _ h => h) (Or.inl ⟨by rfl, ?_⟩) ?_ ?_; rotate_left; (· (intro w'; go_simp; with_reducible rfl)); rotate_left; (· (simp only [Act.put, sA_, sZ_, sS_, i64_w, i32_w]; rfl))
              refine pu_ (i := 12) (N := some 25) (v := ?_) (a' := ?_) rfl rfl (any_of HT_.out (by kernel_rfl)) (fun _ _ _ h => h) (Or.inl ⟨by rfl, ?_⟩) ?_ ?_; rotate_left; (· (intro w'; go_simp; with_reducible rfl))
              rotate_left; (· (simp only [Act.put, sA_, sZ_, sS_, i64_w, i32_w]; rfl))
              refine ta_ (i := 4) (N := some 17) (v := ?_) (a' := ?_) rfl rfl (take_ofW HT_.out HW_.out (by kernel_rfl)) (fun _ _ _ h => h) (Or.inl ⟨by rfl, ?_⟩) hHeld ?_ ?_
              rotate_left
              ·rintro w' ⟨s0, s1, s2, s3, s4, s5, s6, s7, s8, s9, s10⟩
               go_simp
               with_reducible rfl
              rotate_left; (· (simp only [Act.put, sA_, sZ_, sS_, i64_w, i32_w]; rfl))
              refine pu_ (i := 7) (N := some 20) (v := ?_) (a' := ?_) rfl rfl (any_of HT_.out (by kernel_rfl)) (fun _ _ _ h => h) (Or.inl ⟨by rfl, ?_⟩) ?_ ?_; rotate_left; (· (intro w'; go_simp; with_reducible rfl)); rotate_left; (· (simp only [Act.put, sA_, sZ_, sS_, i64_w, i32_w]; rfl))
              refine pu_ (i := 8) (N := some 21) (v := ?_) (a' := ?_) rfl rfl (any_of HT_.out (by kernel_rfl)) (fun _ _ _ h => h) (Or.inl ⟨by rfl, ?_⟩) ?_ ?_; rotate_left; (· (intro w'; go_simp; with_reducible rfl))
              rotate_left; (· (simp only [Act.put, sA_, sZ_, sS_, i64_w, i32_w]; rfl))
              refine pu_ (i := 9) (N := some 22) (v := ?_) (a' := ?_) rfl rfl (any_of HT_.out (by kernel_rfl)) (fun _ _ _ h => h) (Or.inl ⟨by rfl, ?_⟩) ?_ ?_; rotate_left; (· (intro w'; go_simp; with_reducible rfl)); rotate_left; (· (simp only [Act.put, sA_, sZ_, sS_, i64_w, i32_w]; rfl))
              refine ta_ (i := 10) (N := some 23) (v := ?_) (a' := ?_) rfl rfl (take_ofW HT_.out HW_.out (by kernel_rfl)) (fun _ _ _ h => h) (Or.inl ⟨by rfl, ?_⟩) hHeld ?_ ?_
              rotate_left
              ·rintro w' ⟨s0, s1, s2, s3, s4, s5, s6, s7, s8, s9, s10⟩
               go_simp
               with_reducible rfl
              rotate_left; (· (simp only [Act.put, sA_, sZ_, sS_, i64_w, i32_w]; rfl))
              refine ta_ (i := 13) (N := some 26) (v := ?_) (a' := ?_) rfl rfl (take_ofW HT_.out HW_.out (by kernel_rfl)) (fun _ _ _ h => h) (Or.inl ⟨by rfl, ?_⟩) hHeld ?_ ?_
              rotate_left
              ·rintro w' ⟨s0, s1, s2, s3, s4, s5, s6, s7, s8, s9, s10⟩
               go_simp
               with_reducible rfl
              rotate_left; (· (simp only [Act.put, sA_, sZ_, sS_, i64_w, i32_w]; rfl))
              refine pu_ (i := 14) (N := some 27) (v := ?_) (a' := ?_) rfl rfl (any_of HT_.out (by kernel_rfl)) (fun _ _ _ h => h) (Or.inl ⟨by rfl, ?_⟩) ?_ ?_; rotate_left; (· (intro w'; go_simp; with_reducible rfl)); rotate_left; (· (simp only [Act.put, sA_, sZ_, sS_, i64_w, i32_w]; rfl))
              refine pu_ (i := 15) (N := some 28) (v := ?_) (a' := ?_) rfl rfl (any_of HT_.out (by kernel_rfl)) (fun _ _ _ h => h) (Or.inl ⟨by rfl, ?_⟩) ?_ ?_; rotate_left; (· (intro w'; go_simp; with_reducible rfl))
              rotate_left; (· (simp only [Act.put, sA_, sZ_, sS_, i64_w, i32_w]; rfl))
              refine pu_ (i := 16) (N := some 29) (v := ?_) (a' := ?_) rfl rfl (any_of HT_.out (by kernel_rfl)) (fun _ _ _ h => h) (Or.inl ⟨by rfl, ?_⟩) ?_ ?_; rotate_left; (· (intro w'; go_simp; with_reducible rfl)); rotate_left; (· (simp only [Act.put, sA_, sZ_, sS_, i64_w, i32_w]; rfl))
              refine pu_ (i := 17) (N := some 30) (v := ?_) (a' := ?_) rfl rfl (any_of HT_.out (by kernel_rfl)) (fun _ _ _ h => h) (Or.inl ⟨by rfl, ?_⟩) ?_ ?_; rotate_left; (· (intro w'; go_simp; with_reducible rfl))
              rotate_left; (· (simp only [Act.put, sA_, sZ_, sS_, i64_w, i32_w]; rfl))
              refine ta_ (i := 18) (N := some 31) (v := ?_) (a' := ?_) rfl rfl (take_ofW HT_.out HW_.out (by kernel_rfl)) (fun _ _ _ h => h) (Or.inl ⟨by rfl, ?_⟩) hHeld ?_ ?_
              rotate_left
              ·rintro w' ⟨s0, s1, s2, s3, s4, s5, s6, s7, s8, s9, s10⟩
               go_simp
               with_reducible rfl
              rotate_left; (· (simp only [Act.put, sA_, sZ_, sS_, i64_w, i32_w]; rfl))
              refine on_ (i := 19) (N := some 32) rfl rfl (one_of HT_.out (by kernel_rfl)) (by decide) (fun K hK => ?_)
              refine goes_ Try.func91 (by kernel_rfl) rfl #[.agg #[.int .i64 ((rd_T104 l0_2 x8_1).f0.f0), .int .i64 ((rd_T104 l0_2 x8_1).f0.f1)]] (by rfl) rfl rfl (by (try simp only [List.map_toArray, List.map_cons, List.map_nil]); first | done | rfl | (simp only [List.length_drop, List.length_take]; rfl)) ?_
              with_reducible refine (impl_reqOk.calls ((rd_T104 l0_2 x8_1).f0.f0) ((rd_T104 l0_2 x8_1).f0.f1) true _ A18.out).mono ?_
              rintro e w33 ⟨rfl, hb⟩
              refine ⟨_, rfl, ?_⟩
              have n0_ := Aside0.mk (blk_below (g := gb177) (o := .cells #[.int .i64 a0_0, .slice A0_1 l0_1.length c0_1, .slice (some ad178) l0_2.length c0_2] 25 (0, 0)) (by (with_reducible repeat (first | refine blk_drewN ?_ _ | refine blk_drew ?_ | refine blk_alloc ?_ _)); exact BK177.out) hb)
              have n1_ := Aside0.mk (blk_below (g := gb179) (o := .cells #[.int .i64 ((rd_T104 l0_2 x8_1).f0.f0), .int .i64 ((rd_T104 l0_2 x8_1).f0.f1), .int .i64 ((rd_T104 l0_2 x8_1).f1), .int .i64 ((rd_T104 l0_2 x8_1).f2)] 104 (0, 0)) (by (with_reducible repeat (first | refine blk_drewN ?_ _ | refine blk_drew ?_ | refine blk_alloc ?_ _)); exact BK179.out) hb)
              have n2_ := Aside0.mk (below_step (by repeat (first | (with_reducible first | exact HB.out | apply below_alloc | apply pw_below_drewN | apply below_drew1 | refine below_set ?_ GE177.out | refine below_set ?_ GE179.out) | exact HB.out)) hb)
              clear BK177
              clear BK179
              clear HB
              have BK177 := n0_
              have BK179 := n1_
              have HB := n2_
              clear n0_ n1_ n2_
              (try clear hb)
              (try clear hb2)
              (try clear hk)
              (try clear hi)
              refine hK.out _ _ ⟨(blk_cell BK177.out 0).trans rfl, (blk_cell BK177.out 1).trans rfl, (blk_cell BK177.out 2).trans rfl, (blk_cell BK179.out 0).trans rfl, (blk_cell BK179.out 1).trans rfl, (blk_cell BK179.out 2).trans rfl, (blk_cell BK179.out 3).trans rfl, ((HB.out.cell (World.block_lt_of_cell? w _ hw180_0)).trans hw180_0), ((HB.out.cell (World.block_lt_of_cell? w _ hw180_1)).trans hw180_1), ((HB.out.cell (World.block_lt_of_cell? w _ hw180_2)).trans hw180_2), ((HB.out.cell (World.block_lt_of_cell? w _ hw180_3)).trans hw180_3)⟩ (fun hHeld => ?_)
              clear hK K
              refine norm_ (a' := ?_) ?_ ?_
              rotate_left
              ·show Act.put _ (some 32) _ = _
               simp only [Act.put, sA_, sZ_, sS_, i64_w, i32_w]
               rfl
              refine pu_ (i := 20) (N := some 33) (v := ?_) (a' := ?_) rfl rfl (any_of HT_.out (by kernel_rfl)) (fun _ _ _ h => h) (Or.inl ⟨by rfl, ?_⟩) ?_ ?_; rotate_left; (· (intro w'; go_simp; with_reducible rfl)); rotate_left; (· (simp only [Act.put, sA_, sZ_, sS_, i64_w, i32_w]; rfl))
              refine pu_ (i := 21) (N := some 34) (v := ?_) (a' := ?_) rfl rfl (any_of HT_.out (by kernel_rfl)) (fun _ _ _ h => h) (Or.inl ⟨by rfl, ?_⟩) ?_ ?_; rotate_left; (· (intro w'; go_simp; with_reducible rfl))
              rotate_left; (· (simp only [Act.put, sA_, sZ_, sS_, i64_w, i32_w]; rfl))
              refine pu_ (i := 22) (N := some 35) (v := ?_) (a' := ?_) rfl rfl (any_of HT_.out (by kernel_rfl)) (fun _ _ _ h => h) (Or.inl ⟨by rfl, ?_⟩) ?_ ?_; rotate_left; (· (intro w'; go_simp; with_reducible rfl)); rotate_left; (· (simp only [Act.put, sA_, sZ_, sS_, i64_w, i32_w]; rfl))
              refine pu_ (i := 23) (N := some 36) (v := ?_) (a' := ?_) rfl rfl (any_of HT_.out (by kernel_rfl)) (fun _ _ _ h => h) (Or.inl ⟨by rfl, ?_⟩) ?_ ?_; rotate_left; (· (intro w'; go_simp; with_reducible rfl))
              rotate_left; (· (simp only [Act.put, sA_, sZ_, sS_, i64_w, i32_w]; rfl))
              refine ta_ (i := 24) (N := some 37) (v := ?_) (a' := ?_) rfl rfl (take_ofW HT_.out HW_.out (by kernel_rfl)) (fun _ _ _ h => h) (Or.inl ⟨by rfl, ?_⟩) hHeld ?_ ?_
              rotate_left
              ·rintro w' ⟨s0, s1, s2, s3, s4, s5, s6, s7, s8, s9, s10⟩
               go_simp
               with_reducible rfl
              rotate_left; (· (simp only [Act.put, sA_, sZ_, sS_, i64_w, i32_w]; rfl))
              refine on_ (i := 25) (N := some 38) rfl rfl (one_of HT_.out (by kernel_rfl)) (by decide) (fun K hK => ?_)
              refine goes_ Try.func78 (by kernel_rfl) rfl #[.int .i64 ((rd_T104 l0_2 x8_1).f1), .int .i64 0, .int .i64 2] (by rfl) rfl rfl (by (try simp only [List.map_toArray, List.map_cons, List.map_nil]); first | done | rfl | (simp only [List.length_drop, List.length_take]; rfl)) ?_
              with_reducible refine (impl_in.calls ((rd_T104 l0_2 x8_1).f1) 0 2 true _ A20.out).mono ?_
              rintro e w' ⟨rfl, ⟨nd, rfl⟩⟩
              refine ⟨_, rfl, ?_⟩
              refine hK.out _ _ ⟨(blk_cell BK177.out 0).trans rfl, (blk_cell BK177.out 1).trans rfl, (blk_cell BK177.out 2).trans rfl, (blk_cell BK179.out 0).trans rfl, (blk_cell BK179.out 1).trans rfl, (blk_cell BK179.out 2).trans rfl, (blk_cell BK179.out 3).trans rfl, ((HB.out.cell (World.block_lt_of_cell? w _ hw180_0)).trans hw180_0), ((HB.out.cell (World.block_lt_of_cell? w _ hw180_1)).trans hw180_1), ((HB.out.cell (World.block_lt_of_cell? w _ hw180_2)).trans hw180_2), ((HB.out.cell (World.block_lt_of_cell? w _ hw180_3)).trans hw180_3)⟩ (fun hHeld => ?_)
              clear hK K
              refine norm_ (a' := ?_) ?_ ?_
              rotate_left
              ·show Act.put _ (some 38) _ = _
               simp only [Act.put, sA_, sZ_, sS_, i64_w, i32_w]
               rfl
              refine pu_ (i := 26) (N := some 39) (v := ?_) (a' := ?_) rfl rfl (any_of HT_.out (by kernel_rfl)) (fun _ _ _ h => h) (Or.inl ⟨by rfl, ?_⟩) ?_ ?_; rotate_left; (· (intro w'; go_simp; with_reducible rfl)); rotate_left; (· (simp only [Act.put, sA_, sZ_, sS_, i64_w, i32_w]; rfl))
              refine pu_ (i := 27) (N := some 40) (v := ?_) (a' := ?_) rfl rfl (any_of HT_.out (by kernel_rfl)) (fun _ _ _ h => h) (Or.inl ⟨by rfl, ?_⟩) ?_ ?_; rotate_left; (· (intro w'; go_simp; with_reducible rfl))
              rotate_left; (· (simp only [Act.put, sA_, sZ_, sS_, i64_w, i32_w]; rfl))
              refine pu_ (i := 28) (N := some 41) (v := ?_) (a' := ?_) rfl rfl (any_of HT_.out (by kernel_rfl)) (fun _ _ _ h => h) (Or.inl ⟨by rfl, ?_⟩) ?_ ?_; rotate_left; (· (intro w'; go_simp; with_reducible rfl)); rotate_left; (· (simp only [Act.put, sA_, sZ_, sS_, i64_w, i32_w]; rfl))
              refine pu_ (i := 29) (N := some 42) (v := ?_) (a' := ?_) rfl rfl (any_of HT_.out (by kernel_rfl)) (fun _ _ _ h => h) (Or.inl ⟨by rfl, ?_⟩) ?_ ?_; rotate_left; (· (intro w'; go_simp; with_reducible rfl))
              rotate_left; (· (simp only [Act.put, sA_, sZ_, sS_, i64_w, i32_w]; rfl))
              refine ta_ (i := 30) (N := some 43) (v := ?_) (a' := ?_) rfl rfl (take_ofW HT_.out HW_.out (by kernel_rfl)) (fun _ _ _ h => h) (Or.inl ⟨by rfl, ?_⟩) hHeld ?_ ?_
              rotate_left
              ·rintro w' ⟨s0, s1, s2, s3, s4, s5, s6, s7, s8, s9, s10⟩
               go_simp
               with_reducible rfl
              rotate_left; (· (simp only [Act.put, sA_, sZ_, sS_, i64_w, i32_w]; rfl))
              refine on_ (i := 31) (N := some 44) rfl rfl (one_of HT_.out (by kernel_rfl)) (by decide) (fun K hK => ?_)
              refine goes_ Try.func78 (by kernel_rfl) rfl #[.int .i64 ((rd_T104 l0_2 x8_1).f2), .int .i64 (-1000000), .int .i64 1000000] (by rfl) rfl rfl (by (try simp only [List.map_toArray, List.map_cons, List.map_nil]); first | done | rfl | (simp only [List.length_drop, List.length_take]; rfl)) ?_
              with_reducible refine (impl_in.calls ((rd_T104 l0_2 x8_1).f2) (-1000000) 1000000 false _ A22.out).mono ?_
              rintro e w' ⟨rfl, ⟨nd, rfl⟩⟩
              refine ⟨_, rfl, ?_⟩
              refine hK.out _ _ ⟨(blk_cell BK177.out 0).trans rfl, (blk_cell BK177.out 1).trans rfl, (blk_cell BK177.out 2).trans rfl, (blk_cell BK179.out 0).trans rfl, (blk_cell BK179.out 1).trans rfl, (blk_cell BK179.out 2).trans rfl, (blk_cell BK179.out 3).trans rfl, ((HB.out.cell (World.block_lt_of_cell? w _ hw180_0)).trans hw180_0), ((HB.out.cell (World.block_lt_of_cell? w _ hw180_1)).trans hw180_1), ((HB.out.cell (World.block_lt_of_cell? w _ hw180_2)).trans hw180_2), ((HB.out.cell (World.block_lt_of_cell? w _ hw180_3)).trans hw180_3)⟩ (fun hHeld => ?_)
              clear hK K
              refine norm_ (a' := ?_) ?_ ?_
              rotate_left
              ·show Act.put _ (some 44) _ = _
               simp only [Act.put, sA_, sZ_, sS_, i64_w, i32_w]
               rfl
              refine pu_ (i := 32) (N := some 45) (v := ?_) (a' := ?_) rfl rfl (any_of HT_.out (by kernel_rfl)) (fun _ _ _ h => h) (Or.inl ⟨by rfl, ?_⟩) ?_ ?_; rotate_left; (· (intro w'; go_simp; with_reducible rfl)); rotate_left; (· (simp only [Act.put, sA_, sZ_, sS_, i64_w, i32_w]; rfl))
              refine pu_ (i := 33) (N := some 46) (v := ?_) (a' := ?_) rfl rfl (any_of HT_.out (by kernel_rfl)) (fun _ _ _ h => h) (Or.inl ⟨by rfl, ?_⟩) ?_ ?_; rotate_left; (· (intro w'; go_simp; with_reducible rfl))
              rotate_left; (· (simp only [Act.put, sA_, sZ_, sS_, i64_w, i32_w]; rfl))
              refine pu_ (i := 34) (N := some 47) (v := ?_) (a' := ?_) rfl rfl (any_of HT_.out (by kernel_rfl)) (fun _ _ _ h => h) (Or.inl ⟨by rfl, ?_⟩) ?_ ?_; rotate_left; (· (intro w'; go_simp; with_reducible rfl)); rotate_left; (· (simp only [Act.put, sA_, sZ_, sS_, i64_w, i32_w]; rfl))
              refine pu_ (i := 35) (N := some 48) (v := undef) (a' := ?_) rfl rfl (any_of HT_.out (by kernel_rfl)) (fun _ _ _ h => h) (Or.inr ⟨by rfl, rfl⟩) ?_ ?_; rotate_left; (· (simp only [Act.put, sA_, sZ_, sS_, i64_w, i32_w]; rfl))
              refine pu_ (i := 36) (N := some 49) (v := undef) (a' := ?_) rfl rfl (any_of HT_.out (by kernel_rfl)) (fun _ _ _ h => h) (Or.inr ⟨by rfl, rfl⟩) ?_ ?_
              rotate_left; (· (simp only [Act.put, sA_, sZ_, sS_, i64_w, i32_w]; rfl))
              refine pu_ (i := 37) (N := some 50) (v := undef) (a' := ?_) rfl rfl (any_of HT_.out (by kernel_rfl)) (fun _ _ _ h => h) (Or.inr ⟨by rfl, rfl⟩) ?_ ?_; rotate_left; (· (simp only [Act.put, sA_, sZ_, sS_, i64_w, i32_w]; rfl))
              refine pu_ (i := 38) (N := some 51) (v := undef) (a' := ?_) rfl rfl (any_of HT_.out (by kernel_rfl)) (fun _ _ _ h => h) (Or.inr ⟨by rfl, rfl⟩) ?_ ?_
              rotate_left; (· (simp only [Act.put, sA_, sZ_, sS_, i64_w, i32_w]; rfl))
              refine pu_ (i := 39) (N := some 52) (v := undef) (a' := ?_) rfl rfl (any_of HT_.out (by kernel_rfl)) (fun _ _ _ h => h) (Or.inr ⟨by rfl, rfl⟩) ?_ ?_; rotate_left; (· (simp only [Act.put, sA_, sZ_, sS_, i64_w, i32_w]; rfl))
              refine pu_ (i := 40) (N := some 53) (v := undef) (a' := ?_) rfl rfl (any_of HT_.out (by kernel_rfl)) (fun _ _ _ h => h) (Or.inr ⟨by rfl, rfl⟩) ?_ ?_
              rotate_left; (· (simp only [Act.put, sA_, sZ_, sS_, i64_w, i32_w]; rfl))
              refine pu_ (i := 41) (N := some 54) (v := undef) (a' := ?_) rfl rfl (any_of HT_.out (by kernel_rfl)) (fun _ _ _ h => h) (Or.inr ⟨by rfl, rfl⟩) ?_ ?_; rotate_left; (· (simp only [Act.put, sA_, sZ_, sS_, i64_w, i32_w]; rfl))
              refine pu_ (i := 42) (N := some 55) (v := undef) (a' := ?_) rfl rfl (any_of HT_.out (by kernel_rfl)) (fun _ _ _ h => h) (Or.inr ⟨by rfl, rfl⟩) ?_ ?_
              rotate_left; (· (simp only [Act.put, sA_, sZ_, sS_, i64_w, i32_w]; rfl))
              refine pu_ (i := 43) (N := some 56) (v := ?_) (a' := ?_) rfl rfl (any_of HT_.out (by kernel_rfl)) (fun _ _ _ h => h) (Or.inl ⟨by rfl, ?_⟩) ?_ ?_; rotate_left; (· (intro w'; go_simp; with_reducible rfl)); rotate_left; (· (simp only [Act.put, sA_, sZ_, sS_, i64_w, i32_w]; rfl))
              refine done_ (done_of HT_.out (by kernel_rfl)) ?_
              try go_wp2
              go_meet
              case rel => exact ⟨_, (true), (by first | rfl | (simp; done) | (simp [*]; done)), H', ⟨by have := HK1.out; first | omega | exact Nat.le_refl _⟩, ⟨by (with_reducible repeat (first | refine blk_drewN ?_ _ | refine blk_drew ?_ | refine blk_alloc ?_ _)); exact BK177.out⟩, ⟨by (with_reducible repeat (first | refine blk_drewN ?_ _ | refine blk_drew ?_ | refine blk_alloc ?_ _)); exact BK179.out⟩, ⟨by repeat (first | (with_reducible first | exact HB.out | apply below_alloc | apply pw_below_drewN | apply below_drew1 | refine below_set ?_ GE177.out | refine below_set ?_ GE179.out) | exact HB.out)⟩⟩
            ·replace c21 := Bool.eq_false_iff.mpr c21
             subst c21
             have H1 : (impl_CertOk.j1 k1 l0_2 (l0_2.length : Int) x8_1 true a0_0 l0_1 l0_2) = some r := by rw [if_neg (show ¬ (false = true) by decide)] at H; exact H
             clear H
             have H := H1
             clear H1
             have H' := Aside0.mk H
             clear H
             try go_wp2
             have n0_ : Aside0 (((((w8.setCell ⟨gb179, 0, none⟩ (.int .i64 ((rd_T104 l0_2 x8_1).f0.f0))).setCell ⟨gb179, 1, none⟩ (.int .i64 ((rd_T104 l0_2 x8_1).f0.f1))).setCell ⟨gb179, 2, none⟩ (.int .i64 ((rd_T104 l0_2 x8_1).f1))).setCell ⟨gb179, 3, none⟩ (.int .i64 ((rd_T104 l0_2 x8_1).f2))).heap[gb177]? = some (.cells #[.int .i64 a0_0, .slice A0_1 l0_1.length c0_1, .slice (some ad178) l0_2.length c0_2] 25 (0, 0))) := ⟨by (with_reducible repeat (first | refine blk_drewN ?_ _ | refine blk_drew ?_ | refine blk_alloc ?_ _)); refine blk_far ?_ NB177_179.out _; (with_reducible repeat (first | refine blk_drewN ?_ _ | refine blk_drew ?_ | refine blk_alloc ?_ _)); refine blk_far ?_ NB177_179.out _; (with_reducible repeat (first | refine blk_drewN ?_ _ | refine blk_drew ?_ | refine blk_alloc ?_ _)); refine blk_far ?_ NB177_179.out _; (with_reducible repeat (first | refine blk_drewN ?_ _ | refine blk_drew ?_ | refine blk_alloc ?_ _)); refine blk_far ?_ NB177_179.out _; (with_reducible repeat (first | refine blk_drewN ?_ _ | refine blk_drew ?_ | refine blk_alloc ?_ _)); exact BK177.out⟩
             have n1_ : Aside0 (((((w8.setCell ⟨gb179, 0, none⟩ (.int .i64 ((rd_T104 l0_2 x8_1).f0.f0))).setCell ⟨gb179, 1, none⟩ (.int .i64 ((rd_T104 l0_2 x8_1).f0.f1))).setCell ⟨gb179, 2, none⟩ (.int .i64 ((rd_T104 l0_2 x8_1).f1))).setCell ⟨gb179, 3, none⟩ (.int .i64 ((rd_T104 l0_2 x8_1).f2))).heap[gb179]? = some (.cells #[.int .i64 ((rd_T104 l0_2 x8_1).f0.f0), .int .i64 ((rd_T104 l0_2 x8_1).f0.f1), .int .i64 ((rd_T104 l0_2 x8_1).f1), .int .i64 ((rd_T104 l0_2 x8_1).f2)] 104 (0, 0))) := ⟨by (with_reducible repeat (first | refine blk_drewN ?_ _ | refine blk_drew ?_ | refine blk_alloc ?_ _)); refine blk_put (cs := #[.int .i64 ((rd_T104 l0_2 x8_1).f0.f0), .int .i64 ((rd_T104 l0_2 x8_1).f0.f1), .int .i64 ((rd_T104 l0_2 x8_1).f1), .int .i64 0]) ?_ 3 _ rfl; (with_reducible repeat (first | refine blk_drewN ?_ _ | refine blk_drew ?_ | refine blk_alloc ?_ _)); refine blk_put (cs := #[.int .i64 ((rd_T104 l0_2 x8_1).f0.f0), .int .i64 ((rd_T104 l0_2 x8_1).f0.f1), .int .i64 0, .int .i64 0]) ?_ 2 _ rfl; (with_reducible repeat (first | refine blk_drewN ?_ _ | refine blk_drew ?_ | refine blk_alloc ?_ _)); refine blk_put (cs := #[.int .i64 ((rd_T104 l0_2 x8_1).f0.f0), .int .i64 0, .int .i64 0, .int .i64 0]) ?_ 1 _ rfl; (with_reducible repeat (first | refine blk_drewN ?_ _ | refine blk_drew ?_ | refine blk_alloc ?_ _)); refine blk_put (cs := #[.int .i64 0, .int .i64 0, .int .i64 0, .int .i64 0]) ?_ 0 _ rfl; (with_reducible repeat (first | refine blk_drewN ?_ _ | refine blk_drew ?_ | refine blk_alloc ?_ _)); exact BK179.out⟩
             have n2_ : Aside0 (Below w.heap.size w ((((w8.setCell ⟨gb179, 0, none⟩ (.int .i64 ((rd_T104 l0_2 x8_1).f0.f0))).setCell ⟨gb179, 1, none⟩ (.int .i64 ((rd_T104 l0_2 x8_1).f0.f1))).setCell ⟨gb179, 2, none⟩ (.int .i64 ((rd_T104 l0_2 x8_1).f1))).setCell ⟨gb179, 3, none⟩ (.int .i64 ((rd_T104 l0_2 x8_1).f2)))) := ⟨by repeat (first | (with_reducible first | exact HB.out | apply below_alloc | apply pw_below_drewN | apply below_drew1 | refine below_set ?_ GE177.out | refine below_set ?_ GE179.out) | exact HB.out)⟩
             (try clear BK177)
             (try clear BK179)
             (try clear HB)
             generalize ((((w8.setCell ⟨gb179, 0, none⟩ (.int .i64 ((rd_T104 l0_2 x8_1).f0.f0))).setCell ⟨gb179, 1, none⟩ (.int .i64 ((rd_T104 l0_2 x8_1).f0.f1))).setCell ⟨gb179, 2, none⟩ (.int .i64 ((rd_T104 l0_2 x8_1).f1))).setCell ⟨gb179, 3, none⟩ (.int .i64 ((rd_T104 l0_2 x8_1).f2))) = w34 at n0_ n1_ n2_ ⊢
             have BK177 := n0_
             have BK179 := n1_
             have HB := n2_
             clear n0_ n1_ n2_
             have n0_ := Aside0.mk (blk_drew BK177.out)
             have n1_ := Aside0.mk (blk_drew BK179.out)
             have n2_ := Aside0.mk (below_drew1 HB.out)
             clear BK177
             clear BK179
             clear HB
             have BK177 := n0_
             have BK179 := n1_
             have HB := n2_
             clear n0_ n1_ n2_
             have p180 : 0 ≤ ((ji12) : Int) := of_decide_eq_true (by first | (with_reducible assumption) | assumption)
             have q180 : (ji12) < (l0_2.length : Int) := of_decide_eq_true (by first | (with_reducible assumption) | assumption)
             obtain ⟨ad180, e180, hx180_0, hx180_1, hx180_2, hx180_3⟩ := at_T104 HR0_2.out (ji12) p180 q180
             have hw180_3 := hx180_3
             have hw180_2 := hx180_2
             have hw180_1 := hx180_1
             have hw180_0 := hx180_0
             obtain rfl : ad178 = ad180 := (by injection e180)
             replace hx180_0 := (HB.out.cell (World.block_lt_of_cell? w _ hx180_0)).trans hx180_0
             replace hx180_1 := (HB.out.cell (World.block_lt_of_cell? w _ hx180_1)).trans hx180_1
             replace hx180_2 := (HB.out.cell (World.block_lt_of_cell? w _ hx180_2)).trans hx180_2
             replace hx180_3 := (HB.out.cell (World.block_lt_of_cell? w _ hx180_3)).trans hx180_3
             replace p180 := eq_true p180
             replace q180 := eq_true q180
             refine start_ (n := 44) (S := fun w' => w'.cell? ⟨gb177, 0, none⟩ = some (.int .i64 a0_0) ∧ w'.cell? ⟨gb177, 1, none⟩ = some (.slice A0_1 l0_1.length c0_1) ∧ w'.cell? ⟨gb177, 2, none⟩ = some (.slice (some ad178) l0_2.length c0_2) ∧ w'.cell? ⟨gb179, 0, none⟩ = some (.int .i64 ((rd_T104 l0_2 x8_1).f0.f0)) ∧ w'.cell? ⟨gb179, 1, none⟩ = some (.int .i64 ((rd_T104 l0_2 x8_1).f0.f1)) ∧ w'.cell? ⟨gb179, 2, none⟩ = some (.int .i64 ((rd_T104 l0_2 x8_1).f1)) ∧ w'.cell? ⟨gb179, 3, none⟩ = some (.int .i64 ((rd_T104 l0_2 x8_1).f2)) ∧ w'.cell? (ad178.add (((ji12)).toNat * 4)) = some (.int .i64 ((rd_T104 l0_2 (ji12)).f0.f0)) ∧ w'.cell? ⟨(ad178.add (((ji12)).toNat * 4)).block, (ad178.add (((ji12)).toNat * 4)).off + 1, none⟩ = some (.int .i64 ((rd_T104 l0_2 (ji12)).f0.f1)) ∧ w'.cell? ⟨(ad178.add (((ji12)).toNat * 4)).block, (ad178.add (((ji12)).toNat * 4)).off + 2, none⟩ = some (.int .i64 ((rd_T104 l0_2 (ji12)).f1)) ∧ w'.cell? ⟨(ad178.add (((ji12)).toNat * 4)).block, (ad178.add (((ji12)).toNat * 4)).off + 3, none⟩ = some (.int .i64 ((rd_T104 l0_2 (ji12)).f2))) (ds := []) #[false, false, false, false, false, false, false, false, false, false, false, false, false, false, false, false, false, false, false, false, false, false, false, false, false, false, false, false, false, false, false, false, false, false, false, false, false, false, false, false, false, false, false, false] (by kernel_rfl) rfl rfl ⟨(blk_cell BK177.out 0).trans rfl, (blk_cell BK177.out 1).trans rfl, (blk_cell BK177.out 2).trans rfl, (blk_cell BK179.out 0).trans rfl, (blk_cell BK179.out 1).trans rfl, (blk_cell BK179.out 2).trans rfl, (blk_cell BK179.out 3).trans rfl, ((HB.out.cell (World.block_lt_of_cell? w _ hw180_0)).trans hw180_0), ((HB.out.cell (World.block_lt_of_cell? w _ hw180_1)).trans hw180_1), ((HB.out.cell (World.block_lt_of_cell? w _ hw180_2)).trans hw180_2), ((HB.out.cell (World.block_lt_of_cell? w _ hw180_3)).trans hw180_3)⟩ (fun hHeld => ?_); refine with_tabW impl_CertOk.tab4 impl_CertOk.bits4 (fun HT_ HW_ => ?_)
             generalize w34.drew = w35 at BK177 BK179 HB hx180_0 hx180_1 hx180_2 hx180_3 hHeld ⊢
             refine pu_ (i := 0) (N := some 13) (v := ?_) (a' := ?_) rfl rfl (any_of HT_.out (by kernel_rfl)) (fun _ _ _ h => h) (Or.inl ⟨by rfl, ?_⟩) ?_ ?_; rotate_left; (· (intro w'; go_simp; with_reducible rfl)); rotate_left; (· (simp only [Act.put, sA_, sZ_, sS_, i64_w, i32_w]; rfl))
             refine pu_ (i := 1) (N := some 14) (v := ?_) (a' := ?_) rfl rfl (any_of HT_.out (by kernel_rfl)) (fun _ _ _ h => h) (Or.inl ⟨by rfl, ?_⟩) ?_ ?_; rotate_left; (· (intro w'; go_simp; with_reducible rfl))
             rotate_left; (· (simp only [Act.put, sA_, sZ_, sS_, i64_w, i32_w]; rfl))
             refine pu_ (i := 2) (N := some 15) (v := ?_) (a' := ?_) rfl rfl (any_of HT_.out (by kernel_rfl)) (fun _ _ _ h => h) (Or.inl ⟨by rfl, ?_⟩) ?_ ?_; rotate_left; (· (intro w'; go_simp; with_reducible rfl)); rotate_left; (· (simp only [Act.put, sA_, sZ_, sS_, i64_w, i32_w]; rfl))
             refine pu_ (i := 3) (N := some 16) (v := ?_) (a' := ?_) rfl rfl (any_of HT_.out (by kernel_rfl)) (fun _ _ _ h => h) (Or.inl ⟨by rfl, ?_⟩) ?_ ?_; rotate_left; (· (intro w'; go_simp; with_reducible rfl))
             rotate_left; (· (simp only [Act.put, sA_, sZ_, sS_, i64_w, i32_w]; rfl))
             refine pu_ (i := 5) (N := some 18) (v := ?_) (a' := ?_) rfl rfl (any_of HT_.out (by kernel_rfl)) (fun _ _ _ h => h) (Or.inl ⟨by rfl, ?_⟩) ?_ ?_; rotate_left; (· (intro w'; go_simp; with_reducible rfl)); rotate_left; (· (simp only [Act.put, sA_, sZ_, sS_, i64_w, i32_w]; rfl))
             refine pu_ (i := 6) (N := some 19) (v := ?_) (a' := ?_) rfl rfl (any_of HT_.out (by kernel_rfl)) (fun _ _ _ h => h) (Or.inl ⟨by rfl, ?_⟩) ?_ ?_; rotate_left; (· (intro w'; go_simp; with_reducible rfl))
             rotate_left; (· (simp only [Act.put, sA_, sZ_, sS_, i64_w, i32_w]; rfl))
             refine pu_ (i := 11) (N := some 24) (v := ?_) (a' := ?_) rfl rfl (any_of HT_.out (by kernel_rfl)) (fun _ _ _ h => h) (Or.inl ⟨by rfl, ?_⟩) ?_ ?_; rotate_left; (· (intro w'; go_simp; with_reducible rfl)); rotate_left; (· (simp only [Act.put, sA_, sZ_, sS_, i64_w, i32_w]; rfl))
             refine pu_ (i := 12) (N := some 25) (v := ?_) (a' := ?_) rfl rfl (any_of HT_.out (by kernel_rfl)) (fun _ _ _ h => h) (Or.inl ⟨by rfl, ?_⟩) ?_ ?_; rotate_left; (· (intro w'; go_simp; with_reducible rfl))
             rotate_left; (· (simp only [Act.put, sA_, sZ_, sS_, i64_w, i32_w]; rfl))
             refine ta_ (i := 4) (N := some 17) (v := ?_) (a' := ?_) rfl rfl (take_ofW HT_.out HW_.out (by kernel_rfl)) (fun _ _ _ h => h) (Or.inl ⟨by rfl, ?_⟩) hHeld ?_ ?_
             rotate_left
             ·rintro w' ⟨s0, s1, s2, s3, s4, s5, s6, s7, s8, s9, s10⟩
              go_simp
              with_reducible rfl
             rotate_left; (· (simp only [Act.put, sA_, sZ_, sS_, i64_w, i32_w]; rfl))
             refine pu_ (i := 7) (N := some 20) (v := ?_) (a' := ?_) rfl rfl (any_of HT_.out (by kernel_rfl)) (fun _ _ _ h => h) (Or.inl ⟨by rfl, ?_⟩) ?_ ?_; rotate_left; (· (intro w'; go_simp; with_reducible rfl)); rotate_left; (· (simp only [Act.put, sA_, sZ_, sS_, i64_w, i32_w]; rfl))
             refine pu_ (i := 8) (N := some 21) (v := ?_) (a' := ?_) rfl rfl (any_of HT_.out (by kernel_rfl)) (fun _ _ _ h => h) (Or.inl ⟨by rfl, ?_⟩) ?_ ?_; rotate_left; (· (intro w'; go_simp; with_reducible rfl))
             rotate_left; (· (simp only [Act.put, sA_, sZ_, sS_, i64_w, i32_w]; rfl))
             refine pu_ (i := 9) (N := some 22) (v := ?_) (a' := ?_) rfl rfl (any_of HT_.out (by kernel_rfl)) (fun _ _ _ h => h) (Or.inl ⟨by rfl, ?_⟩) ?_ ?_; rotate_left; (· (intro w'; go_simp; with_reducible rfl)); rotate_left; (· (simp only [Act.put, sA_, sZ_, sS_, i64_w, i32_w]; rfl))
             refine ta_ (i := 10) (N := some 23) (v := ?_) (a' := ?_) rfl rfl (take_ofW HT_.out HW_.out (by kernel_rfl)) (fun _ _ _ h => h) (Or.inl ⟨by rfl, ?_⟩) hHeld ?_ ?_
             rotate_left
             ·rintro w' ⟨s0, s1, s2, s3, s4, s5, s6, s7, s8, s9, s10⟩
              go_simp
              with_reducible rfl
             rotate_left; (· (simp only [Act.put, sA_, sZ_, sS_, i64_w, i32_w]; rfl))
             refine ta_ (i := 13) (N := some 26) (v := ?_) (a' := ?_) rfl rfl (take_ofW HT_.out HW_.out (by kernel_rfl)) (fun _ _ _ h => h) (Or.inl ⟨by rfl, ?_⟩) hHeld ?_ ?_
             rotate_left
             ·rintro w' ⟨s0, s1, s2, s3, s4, s5, s6, s7, s8, s9, s10⟩
              go_simp
              with_reducible rfl
             rotate_left; (· (simp only [Act.put, sA_, sZ_, sS_, i64_w, i32_w]; rfl))
             refine pu_ (i := 14) (N := some 27) (v := ?_) (a' := ?_) rfl rfl (any_of HT_.out (by kernel_rfl)) (fun _ _ _ h => h) (Or.inl ⟨by rfl, ?_⟩) ?_ ?_; rotate_left; (· (intro w'; go_simp; with_reducible rfl)); rotate_left; (· (simp only [Act.put, sA_, sZ_, sS_, i64_w, i32_w]; rfl))
             refine pu_ (i := 15) (N := some 28) (v := ?_) (a' := ?_) rfl rfl (any_of HT_.out (by kernel_rfl)) (fun _ _ _ h => h) (Or.inl ⟨by rfl, ?_⟩) ?_ ?_; rotate_left; (· (intro w'; go_simp; with_reducible rfl))
             rotate_left; (· (simp only [Act.put, sA_, sZ_, sS_, i64_w, i32_w]; rfl))
             refine pu_ (i := 16) (N := some 29) (v := ?_) (a' := ?_) rfl rfl (any_of HT_.out (by kernel_rfl)) (fun _ _ _ h => h) (Or.inl ⟨by rfl, ?_⟩) ?_ ?_; rotate_left; (· (intro w'; go_simp; with_reducible rfl)); rotate_left; (· (simp only [Act.put, sA_, sZ_, sS_, i64_w, i32_w]; rfl))
             refine pu_ (i := 17) (N := some 30) (v := ?_) (a' := ?_) rfl rfl (any_of HT_.out (by kernel_rfl)) (fun _ _ _ h => h) (Or.inl ⟨by rfl, ?_⟩) ?_ ?_; rotate_left; (· (intro w'; go_simp; with_reducible rfl))
             rotate_left; (· (simp only [Act.put, sA_, sZ_, sS_, i64_w, i32_w]; rfl))
             refine ta_ (i := 18) (N := some 31) (v := ?_) (a' := ?_) rfl rfl (take_ofW HT_.out HW_.out (by kernel_rfl)) (fun _ _ _ h => h) (Or.inl ⟨by rfl, ?_⟩) hHeld ?_ ?_
             rotate_left
             ·rintro w' ⟨s0, s1, s2, s3, s4, s5, s6, s7, s8, s9, s10⟩
              go_simp
              with_reducible rfl
             rotate_left; (· (simp only [Act.put, sA_, sZ_, sS_, i64_w, i32_w]; rfl))
             refine on_ (i := 19) (N := some 32) rfl rfl (one_of HT_.out (by kernel_rfl)) (by decide) (fun K hK => ?_)
             refine goes_ Try.func91 (by kernel_rfl) rfl #[.agg #[.int .i64 ((rd_T104 l0_2 x8_1).f0.f0), .int .i64 ((rd_T104 l0_2 x8_1).f0.f1)]] (by rfl) rfl rfl (by (try simp only [List.map_toArray, List.map_cons, List.map_nil]); first | done | rfl | (simp only [List.length_drop, List.length_take]; rfl)) ?_
             with_reducible refine (impl_reqOk.calls ((rd_T104 l0_2 x8_1).f0.f0) ((rd_T104 l0_2 x8_1).f0.f1) true _ A18.out).mono ?_
             rintro e w36 ⟨rfl, hb⟩
             refine ⟨_, rfl, ?_⟩
             have n0_ := Aside0.mk (blk_below (g := gb177) (o := .cells #[.int .i64 a0_0, .slice A0_1 l0_1.length c0_1, .slice (some ad178) l0_2.length c0_2] 25 (0, 0)) (by (with_reducible repeat (first | refine blk_drewN ?_ _ | refine blk_drew ?_ | refine blk_alloc ?_ _)); exact BK177.out) hb)
             have n1_ := Aside0.mk (blk_below (g := gb179) (o := .cells #[.int .i64 ((rd_T104 l0_2 x8_1).f0.f0), .int .i64 ((rd_T104 l0_2 x8_1).f0.f1), .int .i64 ((rd_T104 l0_2 x8_1).f1), .int .i64 ((rd_T104 l0_2 x8_1).f2)] 104 (0, 0)) (by (with_reducible repeat (first | refine blk_drewN ?_ _ | refine blk_drew ?_ | refine blk_alloc ?_ _)); exact BK179.out) hb)
             have n2_ := Aside0.mk (below_step (by repeat (first | (with_reducible first | exact HB.out | apply below_alloc | apply pw_below_drewN | apply below_drew1 | refine below_set ?_ GE177.out | refine below_set ?_ GE179.out) | exact HB.out)) hb)
             clear BK177
             clear BK179
             clear HB
             have BK177 := n0_
             have BK179 := n1_
             have HB := n2_
             clear n0_ n1_ n2_
             (try clear hb)
             (try clear hb2)
             (try clear hk)
             (try clear hi)
             refine hK.out _ _ ⟨(blk_cell BK177.out 0).trans rfl, (blk_cell BK177.out 1).trans rfl, (blk_cell BK177.out 2).trans rfl, (blk_cell BK179.out 0).trans rfl, (blk_cell BK179.out 1).trans rfl, (blk_cell BK179.out 2).trans rfl, (blk_cell BK179.out 3).trans rfl, ((HB.out.cell (World.block_lt_of_cell? w _ hw180_0)).trans hw180_0), ((HB.out.cell (World.block_lt_of_cell? w _ hw180_1)).trans hw180_1), ((HB.out.cell (World.block_lt_of_cell? w _ hw180_2)).trans hw180_2), ((HB.out.cell (World.block_lt_of_cell? w _ hw180_3)).trans hw180_3)⟩ (fun hHeld => ?_)
             clear hK K
             refine norm_ (a' := ?_) ?_ ?_
             rotate_left
             ·show Act.put _ (some 32) _ = _
              simp only [Act.put, sA_, sZ_, sS_, i64_w, i32_w]
              rfl
             refine pu_ (i := 20) (N := some 33) (v := ?_) (a' := ?_) rfl rfl (any_of HT_.out (by kernel_rfl)) (fun _ _ _ h => h) (Or.inl ⟨by rfl, ?_⟩) ?_ ?_; rotate_left; (· (intro w'; go_simp; with_reducible rfl)); rotate_left; (· (simp only [Act.put, sA_, sZ_, sS_, i64_w, i32_w]; rfl))
             refine pu_ (i := 21) (N := some 34) (v := ?_) (a' := ?_) rfl rfl (any_of HT_.out (by kernel_rfl)) (fun _ _ _ h => h) (Or.inl ⟨by rfl, ?_⟩) ?_ ?_; rotate_left; (· (intro w'; go_simp; with_reducible rfl))
             rotate_left; (· (simp only [Act.put, sA_, sZ_, sS_, i64_w, i32_w]; rfl))
             refine pu_ (i := 22) (N := some 35) (v := ?_) (a' := ?_) rfl rfl (any_of HT_.out (by kernel_rfl)) (fun _ _ _ h => h) (Or.inl ⟨by rfl, ?_⟩) ?_ ?_; rotate_left; (· (intro w'; go_simp; with_reducible rfl)); rotate_left; (· (simp only [Act.put, sA_, sZ_, sS_, i64_w, i32_w]; rfl))
             refine pu_ (i := 23) (N := some 36) (v := ?_) (a' := ?_) rfl rfl (any_of HT_.out (by kernel_rfl)) (fun _ _ _ h => h) (Or.inl ⟨by rfl, ?_⟩) ?_ ?_; rotate_left; (· (intro w'; go_simp; with_reducible rfl))
             rotate_left; (· (simp only [Act.put, sA_, sZ_, sS_, i64_w, i32_w]; rfl))
             refine ta_ (i := 24) (N := some 37) (v := ?_) (a' := ?_) rfl rfl (take_ofW HT_.out HW_.out (by kernel_rfl)) (fun _ _ _ h => h) (Or.inl ⟨by rfl, ?_⟩) hHeld ?_ ?_
             rotate_left
             ·rintro w' ⟨s0, s1, s2, s3, s4, s5, s6, s7, s8, s9, s10⟩
              go_simp
              with_reducible rfl
             rotate_left; (· (simp only [Act.put, sA_, sZ_, sS_, i64_w, i32_w]; rfl))
             refine on_ (i := 25) (N := some 38) rfl rfl (one_of HT_.out (by kernel_rfl)) (by decide) (fun K hK => ?_)
             refine goes_ Try.func78 (by kernel_rfl) rfl #[.int .i64 ((rd_T104 l0_2 x8_1).f1), .int .i64 0, .int .i64 2] (by rfl) rfl rfl (by (try simp only [List.map_toArray, List.map_cons, List.map_nil]); first | done | rfl | (simp only [List.length_drop, List.length_take]; rfl)) ?_
             with_reducible refine (impl_in.calls ((rd_T104 l0_2 x8_1).f1) 0 2 false _ A20.out).mono ?_
             rintro e w' ⟨rfl, ⟨nd, rfl⟩⟩
             refine ⟨_, rfl, ?_⟩
             refine hK.out _ _ ⟨(blk_cell BK177.out 0).trans rfl, (blk_cell BK177.out 1).trans rfl, (blk_cell BK177.out 2).trans rfl, (blk_cell BK179.out 0).trans rfl, (blk_cell BK179.out 1).trans rfl, (blk_cell BK179.out 2).trans rfl, (blk_cell BK179.out 3).trans rfl, ((HB.out.cell (World.block_lt_of_cell? w _ hw180_0)).trans hw180_0), ((HB.out.cell (World.block_lt_of_cell? w _ hw180_1)).trans hw180_1), ((HB.out.cell (World.block_lt_of_cell? w _ hw180_2)).trans hw180_2), ((HB.out.cell (World.block_lt_of_cell? w _ hw180_3)).trans hw180_3)⟩ (fun hHeld => ?_)
             clear hK K
             refine norm_ (a' := ?_) ?_ ?_
             rotate_left
             ·show Act.put _ (some 38) _ = _
              simp only [Act.put, sA_, sZ_, sS_, i64_w, i32_w]
              rfl
             refine pu_ (i := 26) (N := some 39) (v := ?_) (a' := ?_) rfl rfl (any_of HT_.out (by kernel_rfl)) (fun _ _ _ h => h) (Or.inl ⟨by rfl, ?_⟩) ?_ ?_; rotate_left; (· (intro w'; go_simp; with_reducible rfl)); rotate_left; (· (simp only [Act.put, sA_, sZ_, sS_, i64_w, i32_w]; rfl))
             refine pu_ (i := 27) (N := some 40) (v := ?_) (a' := ?_) rfl rfl (any_of HT_.out (by kernel_rfl)) (fun _ _ _ h => h) (Or.inl ⟨by rfl, ?_⟩) ?_ ?_; rotate_left; (· (intro w'; go_simp; with_reducible rfl))
             rotate_left; (· (simp only [Act.put, sA_, sZ_, sS_, i64_w, i32_w]; rfl))
             refine pu_ (i := 28) (N := some 41) (v := ?_) (a' := ?_) rfl rfl (any_of HT_.out (by kernel_rfl)) (fun _ _ _ h => h) (Or.inl ⟨by rfl, ?_⟩) ?_ ?_; rotate_left; (· (intro w'; go_simp; with_reducible rfl)); rotate_left; (· (simp only [Act.put, sA_, sZ_, sS_, i64_w, i32_w]; rfl))
             refine pu_ (i := 29) (N := some 42) (v := undef) (a' := ?_) rfl rfl (any_of HT_.out (by kernel_rfl)) (fun _ _ _ h => h) (Or.inr ⟨by rfl, rfl⟩) ?_ ?_; rotate_left; (· (simp only [Act.put, sA_, sZ_, sS_, i64_w, i32_w]; rfl))
             refine pu_ (i := 30) (N := some 43) (v := undef) (a' := ?_) rfl rfl (any_of HT_.out (by kernel_rfl)) (fun _ _ _ h => h) (Or.inr ⟨by rfl, rfl⟩) ?_ ?_
             rotate_left; (· (simp only [Act.put, sA_, sZ_, sS_, i64_w, i32_w]; rfl))
             refine pu_ (i := 31) (N := some 44) (v := undef) (a' := ?_) rfl rfl (any_of HT_.out (by kernel_rfl)) (fun _ _ _ h => h) (Or.inr ⟨by rfl, rfl⟩) ?_ ?_; rotate_left; (· (simp only [Act.put, sA_, sZ_, sS_, i64_w, i32_w]; rfl))
             refine pu_ (i := 32) (N := some 45) (v := undef) (a' := ?_) rfl rfl (any_of HT_.out (by kernel_rfl)) (fun _ _ _ h => h) (Or.inr ⟨by rfl, rfl⟩) ?_ ?_
             rotate_left; (· (simp only [Act.put, sA_, sZ_, sS_, i64_w, i32_w]; rfl))
             refine pu_ (i := 33) (N := some 46) (v := ?_) (a' := ?_) rfl rfl (any_of HT_.out (by kernel_rfl)) (fun _ _ _ h => h) (Or.inl ⟨by rfl, ?_⟩) ?_ ?_; rotate_left; (· (intro w'; go_simp; with_reducible rfl)); rotate_left; (· (simp only [Act.put, sA_, sZ_, sS_, i64_w, i32_w]; rfl))
             refine pu_ (i := 34) (N := some 47) (v := ?_) (a' := ?_) rfl rfl (any_of HT_.out (by kernel_rfl)) (fun _ _ _ h => h) (Or.inl ⟨by rfl, ?_⟩) ?_ ?_; rotate_left; (· (intro w'; go_simp; with_reducible rfl))
             rotate_left; (· (simp only [Act.put, sA_, sZ_, sS_, i64_w, i32_w]; rfl))
             refine pu_ (i := 35) (N := some 48) (v := undef) (a' := ?_) rfl rfl (any_of HT_.out (by kernel_rfl)) (fun _ _ _ h => h) (Or.inr ⟨by rfl, rfl⟩) ?_ ?_; rotate_left; (· (simp only [Act.put, sA_, sZ_, sS_, i64_w, i32_w]; rfl))
             refine pu_ (i := 36) (N := some 49) (v := undef) (a' := ?_) rfl rfl (any_of HT_.out (by kernel_rfl)) (fun _ _ _ h => h) (Or.inr ⟨by rfl, rfl⟩) ?_ ?_
             rotate_left; (· (simp only [Act.put, sA_, sZ_, sS_, i64_w, i32_w]; rfl))
             refine pu_ (i := 37) (N := some 50) (v := undef) (a' := ?_) rfl rfl (any_of HT_.out (by kernel_rfl)) (fun _ _ _ h => h) (Or.inr ⟨by rfl, rfl⟩) ?_ ?_; rotate_left; (· (simp only [Act.put, sA_, sZ_, sS_, i64_w, i32_w]; rfl))
             refine pu_ (i := 38) (N := some 51) (v := undef) (a' := ?_) rfl rfl (any_of HT_.out (by kernel_rfl)) (fun _ _ _ h => h) (Or.inr ⟨by rfl, rfl⟩) ?_ ?_
             rotate_left; (· (simp only [Act.put, sA_, sZ_, sS_, i64_w, i32_w]; rfl))
             refine pu_ (i := 39) (N := some 52) (v := undef) (a' := ?_) rfl rfl (any_of HT_.out (by kernel_rfl)) (fun _ _ _ h => h) (Or.inr ⟨by rfl, rfl⟩) ?_ ?_; rotate_left; (· (simp only [Act.put, sA_, sZ_, sS_, i64_w, i32_w]; rfl))
             refine pu_ (i := 40) (N := some 53) (v := undef) (a' := ?_) rfl rfl (any_of HT_.out (by kernel_rfl)) (fun _ _ _ h => h) (Or.inr ⟨by rfl, rfl⟩) ?_ ?_
             rotate_left; (· (simp only [Act.put, sA_, sZ_, sS_, i64_w, i32_w]; rfl))
             refine pu_ (i := 41) (N := some 54) (v := undef) (a' := ?_) rfl rfl (any_of HT_.out (by kernel_rfl)) (fun _ _ _ h => h) (Or.inr ⟨by rfl, rfl⟩) ?_ ?_; rotate_left; (· (simp only [Act.put, sA_, sZ_, sS_, i64_w, i32_w]; rfl))
             refine pu_ (i := 42) (N := some 55) (v := undef) (a' := ?_) rfl rfl (any_of HT_.out (by kernel_rfl)) (fun _ _ _ h => h) (Or.inr ⟨by rfl, rfl⟩) ?_ ?_
             rotate_left; (· (simp only [Act.put, sA_, sZ_, sS_, i64_w, i32_w]; rfl))
             refine pu_ (i := 43) (N := some 56) (v := ?_) (a' := ?_) rfl rfl (any_of HT_.out (by kernel_rfl)) (fun _ _ _ h => h) (Or.inl ⟨by rfl, ?_⟩) ?_ ?_; rotate_left; (· (intro w'; go_simp; with_reducible rfl)); rotate_left; (· (simp only [Act.put, sA_, sZ_, sS_, i64_w, i32_w]; rfl))
             refine done_ (done_of HT_.out (by kernel_rfl)) ?_
             try go_wp2
             go_meet
             case rel => exact ⟨_, (true), (by first | rfl | (simp; done) | (simp [*]; done)), H', ⟨by have := HK1.out; first | omega | exact Nat.le_refl _⟩, ⟨by (with_reducible repeat (first | refine blk_drewN ?_ _ | refine blk_drew ?_ | refine blk_alloc ?_ _)); exact BK177.out⟩, ⟨by (with_reducible repeat (first | refine blk_drewN ?_ _ | refine blk_drew ?_ | refine blk_alloc ?_ _)); exact BK179.out⟩, ⟨by repeat (first | (with_reducible first | exact HB.out | apply below_alloc | apply pw_below_drewN | apply below_drew1 | refine below_set ?_ GE177.out | refine below_set ?_ GE179.out) | exact HB.out)⟩⟩
           ·replace c19 := Bool.eq_false_iff.mpr c19
            subst c19
            have H1 : (impl_CertOk.j1 k1 l0_2 (l0_2.length : Int) x8_1 true a0_0 l0_1 l0_2) = some r := by rw [if_neg (show ¬ (false = true) by decide)] at H; exact H
            clear H
            have H := H1
            clear H1
            have H' := Aside0.mk H
            clear H
            try go_wp2
            have n0_ : Aside0 (((((w8.setCell ⟨gb179, 0, none⟩ (.int .i64 ((rd_T104 l0_2 x8_1).f0.f0))).setCell ⟨gb179, 1, none⟩ (.int .i64 ((rd_T104 l0_2 x8_1).f0.f1))).setCell ⟨gb179, 2, none⟩ (.int .i64 ((rd_T104 l0_2 x8_1).f1))).setCell ⟨gb179, 3, none⟩ (.int .i64 ((rd_T104 l0_2 x8_1).f2))).heap[gb177]? = some (.cells #[.int .i64 a0_0, .slice A0_1 l0_1.length c0_1, .slice (some ad178) l0_2.length c0_2] 25 (0, 0))) := ⟨by (with_reducible repeat (first | refine blk_drewN ?_ _ | refine blk_drew ?_ | refine blk_alloc ?_ _)); refine blk_far ?_ NB177_179.out _; (with_reducible repeat (first | refine blk_drewN ?_ _ | refine blk_drew ?_ | refine blk_alloc ?_ _)); refine blk_far ?_ NB177_179.out _; (with_reducible repeat (first | refine blk_drewN ?_ _ | refine blk_drew ?_ | refine blk_alloc ?_ _)); refine blk_far ?_ NB177_179.out _; (with_reducible repeat (first | refine blk_drewN ?_ _ | refine blk_drew ?_ | refine blk_alloc ?_ _)); refine blk_far ?_ NB177_179.out _; (with_reducible repeat (first | refine blk_drewN ?_ _ | refine blk_drew ?_ | refine blk_alloc ?_ _)); exact BK177.out⟩
            have n1_ : Aside0 (((((w8.setCell ⟨gb179, 0, none⟩ (.int .i64 ((rd_T104 l0_2 x8_1).f0.f0))).setCell ⟨gb179, 1, none⟩ (.int .i64 ((rd_T104 l0_2 x8_1).f0.f1))).setCell ⟨gb179, 2, none⟩ (.int .i64 ((rd_T104 l0_2 x8_1).f1))).setCell ⟨gb179, 3, none⟩ (.int .i64 ((rd_T104 l0_2 x8_1).f2))).heap[gb179]? = some (.cells #[.int .i64 ((rd_T104 l0_2 x8_1).f0.f0), .int .i64 ((rd_T104 l0_2 x8_1).f0.f1), .int .i64 ((rd_T104 l0_2 x8_1).f1), .int .i64 ((rd_T104 l0_2 x8_1).f2)] 104 (0, 0))) := ⟨by (with_reducible repeat (first | refine blk_drewN ?_ _ | refine blk_drew ?_ | refine blk_alloc ?_ _)); refine blk_put (cs := #[.int .i64 ((rd_T104 l0_2 x8_1).f0.f0), .int .i64 ((rd_T104 l0_2 x8_1).f0.f1), .int .i64 ((rd_T104 l0_2 x8_1).f1), .int .i64 0]) ?_ 3 _ rfl; (with_reducible repeat (first | refine blk_drewN ?_ _ | refine blk_drew ?_ | refine blk_alloc ?_ _)); refine blk_put (cs := #[.int .i64 ((rd_T104 l0_2 x8_1).f0.f0), .int .i64 ((rd_T104 l0_2 x8_1).f0.f1), .int .i64 0, .int .i64 0]) ?_ 2 _ rfl; (with_reducible repeat (first | refine blk_drewN ?_ _ | refine blk_drew ?_ | refine blk_alloc ?_ _)); refine blk_put (cs := #[.int .i64 ((rd_T104 l0_2 x8_1).f0.f0), .int .i64 0, .int .i64 0, .int .i64 0]) ?_ 1 _ rfl; (with_reducible repeat (first | refine blk_drewN ?_ _ | refine blk_drew ?_ | refine blk_alloc ?_ _)); refine blk_put (cs := #[.int .i64 0, .int .i64 0, .int .i64 0, .int .i64 0]) ?_ 0 _ rfl; (with_reducible repeat (first | refine blk_drewN ?_ _ | refine blk_drew ?_ | refine blk_alloc ?_ _)); exact BK179.out⟩
            have n2_ : Aside0 (Below w.heap.size w ((((w8.setCell ⟨gb179, 0, none⟩ (.int .i64 ((rd_T104 l0_2 x8_1).f0.f0))).setCell ⟨gb179, 1, none⟩ (.int .i64 ((rd_T104 l0_2 x8_1).f0.f1))).setCell ⟨gb179, 2, none⟩ (.int .i64 ((rd_T104 l0_2 x8_1).f1))).setCell ⟨gb179, 3, none⟩ (.int .i64 ((rd_T104 l0_2 x8_1).f2)))) := ⟨by repeat (first | (with_reducible first | exact HB.out | apply below_alloc | apply pw_below_drewN | apply below_drew1 | refine below_set ?_ GE177.out | refine below_set ?_ GE179.out) | exact HB.out)⟩
            (try clear BK177)
            (try clear BK179)
            (try clear HB)
            generalize ((((w8.setCell ⟨gb179, 0, none⟩ (.int .i64 ((rd_T104 l0_2 x8_1).f0.f0))).setCell ⟨gb179, 1, none⟩ (.int .i64 ((rd_T104 l0_2 x8_1).f0.f1))).setCell ⟨gb179, 2, none⟩ (.int .i64 ((rd_T104 l0_2 x8_1).f1))).setCell ⟨gb179, 3, none⟩ (.int .i64 ((rd_T104 l0_2 x8_1).f2))) = w37 at n0_ n1_ n2_ ⊢
            have BK177 := n0_
            have BK179 := n1_
            have HB := n2_
            clear n0_ n1_ n2_
            have n0_ := Aside0.mk (blk_drew BK177.out)
            have n1_ := Aside0.mk (blk_drew BK179.out)
            have n2_ := Aside0.mk (below_drew1 HB.out)
            clear BK177
            clear BK179
            clear HB
            have BK177 := n0_
            have BK179 := n1_
            have HB := n2_
            clear n0_ n1_ n2_
            have p180 : 0 ≤ ((ji12) : Int) := of_decide_eq_true (by first | (with_reducible assumption) | assumption)
            have q180 : (ji12) < (l0_2.length : Int) := of_decide_eq_true (by first | (with_reducible assumption) | assumption)
            obtain ⟨ad180, e180, hx180_0, hx180_1, hx180_2, hx180_3⟩ := at_T104 HR0_2.out (ji12) p180 q180
            have hw180_3 := hx180_3
            have hw180_2 := hx180_2
            have hw180_1 := hx180_1
            have hw180_0 := hx180_0
            obtain rfl : ad178 = ad180 := (by injection e180)
            replace hx180_0 := (HB.out.cell (World.block_lt_of_cell? w _ hx180_0)).trans hx180_0
            replace hx180_1 := (HB.out.cell (World.block_lt_of_cell? w _ hx180_1)).trans hx180_1
            replace hx180_2 := (HB.out.cell (World.block_lt_of_cell? w _ hx180_2)).trans hx180_2
            replace hx180_3 := (HB.out.cell (World.block_lt_of_cell? w _ hx180_3)).trans hx180_3
            replace p180 := eq_true p180
            replace q180 := eq_true q180
            refine start_ (n := 44) (S := fun w' => w'.cell? ⟨gb177, 0, none⟩ = some (.int .i64 a0_0) ∧ w'.cell? ⟨gb177, 1, none⟩ = some (.slice A0_1 l0_1.length c0_1) ∧ w'.cell? ⟨gb177, 2, none⟩ = some (.slice (some ad178) l0_2.length c0_2) ∧ w'.cell? ⟨gb179, 0, none⟩ = some (.int .i64 ((rd_T104 l0_2 x8_1).f0.f0)) ∧ w'.cell? ⟨gb179, 1, none⟩ = some (.int .i64 ((rd_T104 l0_2 x8_1).f0.f1)) ∧ w'.cell? ⟨gb179, 2, none⟩ = some (.int .i64 ((rd_T104 l0_2 x8_1).f1)) ∧ w'.cell? ⟨gb179, 3, none⟩ = some (.int .i64 ((rd_T104 l0_2 x8_1).f2)) ∧ w'.cell? (ad178.add (((ji12)).toNat * 4)) = some (.int .i64 ((rd_T104 l0_2 (ji12)).f0.f0)) ∧ w'.cell? ⟨(ad178.add (((ji12)).toNat * 4)).block, (ad178.add (((ji12)).toNat * 4)).off + 1, none⟩ = some (.int .i64 ((rd_T104 l0_2 (ji12)).f0.f1)) ∧ w'.cell? ⟨(ad178.add (((ji12)).toNat * 4)).block, (ad178.add (((ji12)).toNat * 4)).off + 2, none⟩ = some (.int .i64 ((rd_T104 l0_2 (ji12)).f1)) ∧ w'.cell? ⟨(ad178.add (((ji12)).toNat * 4)).block, (ad178.add (((ji12)).toNat * 4)).off + 3, none⟩ = some (.int .i64 ((rd_T104 l0_2 (ji12)).f2))) (ds := []) #[false, false, false, false, false, false, false, false, false, false, false, false, false, false, false, false, false, false, false, false, false, false, false, false, false, false, false, false, false, false, false, false, false, false, false, false, false, false, false, false, false, false, false, false] (by kernel_rfl) rfl rfl ⟨(blk_cell BK177.out 0).trans rfl, (blk_cell BK177.out 1).trans rfl, (blk_cell BK177.out 2).trans rfl, (blk_cell BK179.out 0).trans rfl, (blk_cell BK179.out 1).trans rfl, (blk_cell BK179.out 2).trans rfl, (blk_cell BK179.out 3).trans rfl, ((HB.out.cell (World.block_lt_of_cell? w _ hw180_0)).trans hw180_0), ((HB.out.cell (World.block_lt_of_cell? w _ hw180_1)).trans hw180_1), ((HB.out.cell (World.block_lt_of_cell? w _ hw180_2)).trans hw180_2), ((HB.out.cell (World.block_lt_of_cell? w _ hw180_3)).trans hw180_3)⟩ (fun hHeld => ?_); refine with_tabW impl_CertOk.tab4 impl_CertOk.bits4 (fun HT_ HW_ => ?_)
            generalize w37.drew = w38 at BK177 BK179 HB hx180_0 hx180_1 hx180_2 hx180_3 hHeld ⊢
            refine pu_ (i := 0) (N := some 13) (v := ?_) (a' := ?_) rfl rfl (any_of HT_.out (by kernel_rfl)) (fun _ _ _ h => h) (Or.inl ⟨by rfl, ?_⟩) ?_ ?_; rotate_left; (· (intro w'; go_simp; with_reducible rfl)); rotate_left; (· (simp only [Act.put, sA_, sZ_, sS_, i64_w, i32_w]; rfl))
            refine pu_ (i := 1) (N := some 14) (v := ?_) (a' := ?_) rfl rfl (any_of HT_.out (by kernel_rfl)) (fun _ _ _ h => h) (Or.inl ⟨by rfl, ?_⟩) ?_ ?_; rotate_left; (· (intro w'; go_simp; with_reducible rfl))
            rotate_left; (· (simp only [Act.put, sA_, sZ_, sS_, i64_w, i32_w]; rfl))
            refine pu_ (i := 2) (N := some 15) (v := ?_) (a' := ?_) rfl rfl (any_of HT_.out (by kernel_rfl)) (fun _ _ _ h => h) (Or.inl ⟨by rfl, ?_⟩) ?_ ?_; rotate_left; (· (intro w'; go_simp; with_reducible rfl)); rotate_left; (· (simp only [Act.put, sA_, sZ_, sS_, i64_w, i32_w]; rfl))
            refine pu_ (i := 3) (N := some 16) (v := ?_) (a' := ?_) rfl rfl (any_of HT_.out (by kernel_rfl)) (fun _ _ _ h => h) (Or.inl ⟨by rfl, ?_⟩) ?_ ?_; rotate_left; (· (intro w'; go_simp; with_reducible rfl))
            rotate_left; (· (simp only [Act.put, sA_, sZ_, sS_, i64_w, i32_w]; rfl))
            refine pu_ (i := 5) (N := some 18) (v := ?_) (a' := ?_) rfl rfl (any_of HT_.out (by kernel_rfl)) (fun _ _ _ h => h) (Or.inl ⟨by rfl, ?_⟩) ?_ ?_; rotate_left; (· (intro w'; go_simp; with_reducible rfl)); rotate_left; (· (simp only [Act.put, sA_, sZ_, sS_, i64_w, i32_w]; rfl))
            refine pu_ (i := 6) (N := some 19) (v := ?_) (a' := ?_) rfl rfl (any_of HT_.out (by kernel_rfl)) (fun _ _ _ h => h) (Or.inl ⟨by rfl, ?_⟩) ?_ ?_; rotate_left; (· (intro w'; go_simp; with_reducible rfl))
            rotate_left; (· (simp only [Act.put, sA_, sZ_, sS_, i64_w, i32_w]; rfl))
            refine pu_ (i := 11) (N := some 24) (v := ?_) (a' := ?_) rfl rfl (any_of HT_.out (by kernel_rfl)) (fun _ _ _ h => h) (Or.inl ⟨by rfl, ?_⟩) ?_ ?_; rotate_left; (· (intro w'; go_simp; with_reducible rfl)); rotate_left; (· (simp only [Act.put, sA_, sZ_, sS_, i64_w, i32_w]; rfl))
            refine pu_ (i := 12) (N := some 25) (v := ?_) (a' := ?_) rfl rfl (any_of HT_.out (by kernel_rfl)) (fun _ _ _ h => h) (Or.inl ⟨by rfl, ?_⟩) ?_ ?_; rotate_left; (· (intro w'; go_simp; with_reducible rfl))
            rotate_left; (· (simp only [Act.put, sA_, sZ_, sS_, i64_w, i32_w]; rfl))
            refine ta_ (i := 4) (N := some 17) (v := ?_) (a' := ?_) rfl rfl (take_ofW HT_.out HW_.out (by kernel_rfl)) (fun _ _ _ h => h) (Or.inl ⟨by rfl, ?_⟩) hHeld ?_ ?_
            rotate_left
            ·rintro w' ⟨s0, s1, s2, s3, s4, s5, s6, s7, s8, s9, s10⟩
             go_simp
             with_reducible rfl
            rotate_left; (· (simp only [Act.put, sA_, sZ_, sS_, i64_w, i32_w]; rfl))
            refine pu_ (i := 7) (N := some 20) (v := ?_) (a' := ?_) rfl rfl (any_of HT_.out (by kernel_rfl)) (fun _ _ _ h => h) (Or.inl ⟨by rfl, ?_⟩) ?_ ?_; rotate_left; (· (intro w'; go_simp; with_reducible rfl)); rotate_left; (· (simp only [Act.put, sA_, sZ_, sS_, i64_w, i32_w]; rfl))
            refine pu_ (i := 8) (N := some 21) (v := ?_) (a' := ?_) rfl rfl (any_of HT_.out (by kernel_rfl)) (fun _ _ _ h => h) (Or.inl ⟨by rfl, ?_⟩) ?_ ?_; rotate_left; (· (intro w'; go_simp; with_reducible rfl))
            rotate_left; (· (simp only [Act.put, sA_, sZ_, sS_, i64_w, i32_w]; rfl))
            refine pu_ (i := 9) (N := some 22) (v := ?_) (a' := ?_) rfl rfl (any_of HT_.out (by kernel_rfl)) (fun _ _ _ h => h) (Or.inl ⟨by rfl, ?_⟩) ?_ ?_; rotate_left; (· (intro w'; go_simp; with_reducible rfl)); rotate_left; (· (simp only [Act.put, sA_, sZ_, sS_, i64_w, i32_w]; rfl))
            refine ta_ (i := 10) (N := some 23) (v := ?_) (a' := ?_) rfl rfl (take_ofW HT_.out HW_.out (by kernel_rfl)) (fun _ _ _ h => h) (Or.inl ⟨by rfl, ?_⟩) hHeld ?_ ?_
            rotate_left
            ·rintro w' ⟨s0, s1, s2, s3, s4, s5, s6, s7, s8, s9, s10⟩
             go_simp
             with_reducible rfl
            rotate_left; (· (simp only [Act.put, sA_, sZ_, sS_, i64_w, i32_w]; rfl))
            refine ta_ (i := 13) (N := some 26) (v := ?_) (a' := ?_) rfl rfl (take_ofW HT_.out HW_.out (by kernel_rfl)) (fun _ _ _ h => h) (Or.inl ⟨by rfl, ?_⟩) hHeld ?_ ?_
            rotate_left
            ·rintro w' ⟨s0, s1, s2, s3, s4, s5, s6, s7, s8, s9, s10⟩
             go_simp
             with_reducible rfl
            rotate_left; (· (simp only [Act.put, sA_, sZ_, sS_, i64_w, i32_w]; rfl))
            refine pu_ (i := 14) (N := some 27) (v := ?_) (a' := ?_) rfl rfl (any_of HT_.out (by kernel_rfl)) (fun _ _ _ h => h) (Or.inl ⟨by rfl, ?_⟩) ?_ ?_; rotate_left; (· (intro w'; go_simp; with_reducible rfl)); rotate_left; (· (simp only [Act.put, sA_, sZ_, sS_, i64_w, i32_w]; rfl))
            refine pu_ (i := 15) (N := some 28) (v := ?_) (a' := ?_) rfl rfl (any_of HT_.out (by kernel_rfl)) (fun _ _ _ h => h) (Or.inl ⟨by rfl, ?_⟩) ?_ ?_; rotate_left; (· (intro w'; go_simp; with_reducible rfl))
            rotate_left; (· (simp only [Act.put, sA_, sZ_, sS_, i64_w, i32_w]; rfl))
            refine pu_ (i := 16) (N := some 29) (v := ?_) (a' := ?_) rfl rfl (any_of HT_.out (by kernel_rfl)) (fun _ _ _ h => h) (Or.inl ⟨by rfl, ?_⟩) ?_ ?_; rotate_left; (· (intro w'; go_simp; with_reducible rfl)); rotate_left; (· (simp only [Act.put, sA_, sZ_, sS_, i64_w, i32_w]; rfl))
            refine pu_ (i := 17) (N := some 30) (v := ?_) (a' := ?_) rfl rfl (any_of HT_.out (by kernel_rfl)) (fun _ _ _ h => h) (Or.inl ⟨by rfl, ?_⟩) ?_ ?_; rotate_left; (· (intro w'; go_simp; with_reducible rfl))
            rotate_left; (· (simp only [Act.put, sA_, sZ_, sS_, i64_w, i32_w]; rfl))
            refine ta_ (i := 18) (N := some 31) (v := ?_) (a' := ?_) rfl rfl (take_ofW HT_.out HW_.out (by kernel_rfl)) (fun _ _ _ h => h) (Or.inl ⟨by rfl, ?_⟩) hHeld ?_ ?_
            rotate_left
            ·rintro w' ⟨s0, s1, s2, s3, s4, s5, s6, s7, s8, s9, s10⟩
             go_simp
             with_reducible rfl
            rotate_left; (· (simp only [Act.put, sA_, sZ_, sS_, i64_w, i32_w]; rfl))
            refine on_ (i := 19) (N := some 32) rfl rfl (one_of HT_.out (by kernel_rfl)) (by decide) (fun K hK => ?_)
            refine goes_ Try.func91 (by kernel_rfl) rfl #[.agg #[.int .i64 ((rd_T104 l0_2 x8_1).f0.f0), .int .i64 ((rd_T104 l0_2 x8_1).f0.f1)]] (by rfl) rfl rfl (by (try simp only [List.map_toArray, List.map_cons, List.map_nil]); first | done | rfl | (simp only [List.length_drop, List.length_take]; rfl)) ?_
            with_reducible refine (impl_reqOk.calls ((rd_T104 l0_2 x8_1).f0.f0) ((rd_T104 l0_2 x8_1).f0.f1) false _ A18.out).mono ?_
            rintro e w39 ⟨rfl, hb⟩
            refine ⟨_, rfl, ?_⟩
            have n0_ := Aside0.mk (blk_below (g := gb177) (o := .cells #[.int .i64 a0_0, .slice A0_1 l0_1.length c0_1, .slice (some ad178) l0_2.length c0_2] 25 (0, 0)) (by (with_reducible repeat (first | refine blk_drewN ?_ _ | refine blk_drew ?_ | refine blk_alloc ?_ _)); exact BK177.out) hb)
            have n1_ := Aside0.mk (blk_below (g := gb179) (o := .cells #[.int .i64 ((rd_T104 l0_2 x8_1).f0.f0), .int .i64 ((rd_T104 l0_2 x8_1).f0.f1), .int .i64 ((rd_T104 l0_2 x8_1).f1), .int .i64 ((rd_T104 l0_2 x8_1).f2)] 104 (0, 0)) (by (with_reducible repeat (first | refine blk_drewN ?_ _ | refine blk_drew ?_ | refine blk_alloc ?_ _)); exact BK179.out) hb)
            have n2_ := Aside0.mk (below_step (by repeat (first | (with_reducible first | exact HB.out | apply below_alloc | apply pw_below_drewN | apply below_drew1 | refine below_set ?_ GE177.out | refine below_set ?_ GE179.out) | exact HB.out)) hb)
            clear BK177
            clear BK179
            clear HB
            have BK177 := n0_
            have BK179 := n1_
            have HB := n2_
            clear n0_ n1_ n2_
            (try clear hb)
            (try clear hb2)
            (try clear hk)
            (try clear hi)
            refine hK.out _ _ ⟨(blk_cell BK177.out 0).trans rfl, (blk_cell BK177.out 1).trans rfl, (blk_cell BK177.out 2).trans rfl, (blk_cell BK179.out 0).trans rfl, (blk_cell BK179.out 1).trans rfl, (blk_cell BK179.out 2).trans rfl, (blk_cell BK179.out 3).trans rfl, ((HB.out.cell (World.block_lt_of_cell? w _ hw180_0)).trans hw180_0), ((HB.out.cell (World.block_lt_of_cell? w _ hw180_1)).trans hw180_1), ((HB.out.cell (World.block_lt_of_cell? w _ hw180_2)).trans hw180_2), ((HB.out.cell (World.block_lt_of_cell? w _ hw180_3)).trans hw180_3)⟩ (fun hHeld => ?_)
            clear hK K
            refine norm_ (a' := ?_) ?_ ?_
            rotate_left
            ·show Act.put _ (some 32) _ = _
             simp only [Act.put, sA_, sZ_, sS_, i64_w, i32_w]
             rfl
            refine pu_ (i := 20) (N := some 33) (v := ?_) (a' := ?_) rfl rfl (any_of HT_.out (by kernel_rfl)) (fun _ _ _ h => h) (Or.inl ⟨by rfl, ?_⟩) ?_ ?_; rotate_left; (· (intro w'; go_simp; with_reducible rfl)); rotate_left; (· (simp only [Act.put, sA_, sZ_, sS_, i64_w, i32_w]; rfl))
            refine pu_ (i := 21) (N := some 34) (v := ?_) (a' := ?_) rfl rfl (any_of HT_.out (by kernel_rfl)) (fun _ _ _ h => h) (Or.inl ⟨by rfl, ?_⟩) ?_ ?_; rotate_left; (· (intro w'; go_simp; with_reducible rfl))
            rotate_left; (· (simp only [Act.put, sA_, sZ_, sS_, i64_w, i32_w]; rfl))
            refine pu_ (i := 22) (N := some 35) (v := ?_) (a' := ?_) rfl rfl (any_of HT_.out (by kernel_rfl)) (fun _ _ _ h => h) (Or.inl ⟨by rfl, ?_⟩) ?_ ?_; rotate_left; (· (intro w'; go_simp; with_reducible rfl)); rotate_left; (· (simp only [Act.put, sA_, sZ_, sS_, i64_w, i32_w]; rfl))
            refine pu_ (i := 23) (N := some 36) (v := undef) (a' := ?_) rfl rfl (any_of HT_.out (by kernel_rfl)) (fun _ _ _ h => h) (Or.inr ⟨by rfl, rfl⟩) ?_ ?_; rotate_left; (· (simp only [Act.put, sA_, sZ_, sS_, i64_w, i32_w]; rfl))
            refine pu_ (i := 24) (N := some 37) (v := undef) (a' := ?_) rfl rfl (any_of HT_.out (by kernel_rfl)) (fun _ _ _ h => h) (Or.inr ⟨by rfl, rfl⟩) ?_ ?_
            rotate_left; (· (simp only [Act.put, sA_, sZ_, sS_, i64_w, i32_w]; rfl))
            refine pu_ (i := 25) (N := some 38) (v := undef) (a' := ?_) rfl rfl (any_of HT_.out (by kernel_rfl)) (fun _ _ _ h => h) (Or.inr ⟨by rfl, rfl⟩) ?_ ?_; rotate_left; (· (simp only [Act.put, sA_, sZ_, sS_, i64_w, i32_w]; rfl))
            refine pu_ (i := 26) (N := some 39) (v := undef) (a' := ?_) rfl rfl (any_of HT_.out (by kernel_rfl)) (fun _ _ _ h => h) (Or.inr ⟨by rfl, rfl⟩) ?_ ?_
            rotate_left; (· (simp only [Act.put, sA_, sZ_, sS_, i64_w, i32_w]; rfl))
            refine pu_ (i := 27) (N := some 40) (v := ?_) (a' := ?_) rfl rfl (any_of HT_.out (by kernel_rfl)) (fun _ _ _ h => h) (Or.inl ⟨by rfl, ?_⟩) ?_ ?_; rotate_left; (· (intro w'; go_simp; with_reducible rfl)); rotate_left; (· (simp only [Act.put, sA_, sZ_, sS_, i64_w, i32_w]; rfl))
            refine pu_ (i := 28) (N := some 41) (v := ?_) (a' := ?_) rfl rfl (any_of HT_.out (by kernel_rfl)) (fun _ _ _ h => h) (Or.inl ⟨by rfl, ?_⟩) ?_ ?_; rotate_left; (· (intro w'; go_simp; with_reducible rfl))
            rotate_left; (· (simp only [Act.put, sA_, sZ_, sS_, i64_w, i32_w]; rfl))
            refine pu_ (i := 29) (N := some 42) (v := undef) (a' := ?_) rfl rfl (any_of HT_.out (by kernel_rfl)) (fun _ _ _ h => h) (Or.inr ⟨by rfl, rfl⟩) ?_ ?_; rotate_left; (· (simp only [Act.put, sA_, sZ_, sS_, i64_w, i32_w]; rfl))
            refine pu_ (i := 30) (N := some 43) (v := undef) (a' := ?_) rfl rfl (any_of HT_.out (by kernel_rfl)) (fun _ _ _ h => h) (Or.inr ⟨by rfl, rfl⟩) ?_ ?_
            rotate_left; (· (simp only [Act.put, sA_, sZ_, sS_, i64_w, i32_w]; rfl))
            refine pu_ (i := 31) (N := some 44) (v := undef) (a' := ?_) rfl rfl (any_of HT_.out (by kernel_rfl)) (fun _ _ _ h => h) (Or.inr ⟨by rfl, rfl⟩) ?_ ?_; rotate_left; (· (simp only [Act.put, sA_, sZ_, sS_, i64_w, i32_w]; rfl))
            refine pu_ (i := 32) (N := some 45) (v := undef) (a' := ?_) rfl rfl (any_of HT_.out (by kernel_rfl)) (fun _ _ _ h => h) (Or.inr ⟨by rfl, rfl⟩) ?_ ?_
            rotate_left; (· (simp only [Act.put, sA_, sZ_, sS_, i64_w, i32_w]; rfl))
            refine pu_ (i := 33) (N := some 46) (v := ?_) (a' := ?_) rfl rfl (any_of HT_.out (by kernel_rfl)) (fun _ _ _ h => h) (Or.inl ⟨by rfl, ?_⟩) ?_ ?_; rotate_left; (· (intro w'; go_simp; with_reducible rfl)); rotate_left; (· (simp only [Act.put, sA_, sZ_, sS_, i64_w, i32_w]; rfl))
            refine pu_ (i := 34) (N := some 47) (v := ?_) (a' := ?_) rfl rfl (any_of HT_.out (by kernel_rfl)) (fun _ _ _ h => h) (Or.inl ⟨by rfl, ?_⟩) ?_ ?_; rotate_left; (· (intro w'; go_simp; with_reducible rfl))
            rotate_left; (· (simp only [Act.put, sA_, sZ_, sS_, i64_w, i32_w]; rfl))
            refine pu_ (i := 35) (N := some 48) (v := undef) (a' := ?_) rfl rfl (any_of HT_.out (by kernel_rfl)) (fun _ _ _ h => h) (Or.inr ⟨by rfl, rfl⟩) ?_ ?_; rotate_left; (· (simp only [Act.put, sA_, sZ_, sS_, i64_w, i32_w]; rfl))
            refine pu_ (i := 36) (N := some 49) (v := undef) (a' := ?_) rfl rfl (any_of HT_.out (by kernel_rfl)) (fun _ _ _ h => h) (Or.inr ⟨by rfl, rfl⟩) ?_ ?_
            rotate_left; (· (simp only [Act.put, sA_, sZ_, sS_, i64_w, i32_w]; rfl))
            refine pu_ (i := 37) (N := some 50) (v := undef) (a' := ?_) rfl rfl (any_of HT_.out (by kernel_rfl)) (fun _ _ _ h => h) (Or.inr ⟨by rfl, rfl⟩) ?_ ?_; rotate_left; (· (simp only [Act.put, sA_, sZ_, sS_, i64_w, i32_w]; rfl))
            refine pu_ (i := 38) (N := some 51) (v := undef) (a' := ?_) rfl rfl (any_of HT_.out (by kernel_rfl)) (fun _ _ _ h => h) (Or.inr ⟨by rfl, rfl⟩) ?_ ?_
            rotate_left; (· (simp only [Act.put, sA_, sZ_, sS_, i64_w, i32_w]; rfl))
            refine pu_ (i := 39) (N := some 52) (v := undef) (a' := ?_) rfl rfl (any_of HT_.out (by kernel_rfl)) (fun _ _ _ h => h) (Or.inr ⟨by rfl, rfl⟩) ?_ ?_; rotate_left; (· (simp only [Act.put, sA_, sZ_, sS_, i64_w, i32_w]; rfl))
            refine pu_ (i := 40) (N := some 53) (v := undef) (a' := ?_) rfl rfl (any_of HT_.out (by kernel_rfl)) (fun _ _ _ h => h) (Or.inr ⟨by rfl, rfl⟩) ?_ ?_
            rotate_left; (· (simp only [Act.put, sA_, sZ_, sS_, i64_w, i32_w]; rfl))
            refine pu_ (i := 41) (N := some 54) (v := undef) (a' := ?_) rfl rfl (any_of HT_.out (by kernel_rfl)) (fun _ _ _ h => h) (Or.inr ⟨by rfl, rfl⟩) ?_ ?_; rotate_left; (· (simp only [Act.put, sA_, sZ_, sS_, i64_w, i32_w]; rfl))
            refine pu_ (i := 42) (N := some 55) (v := undef) (a' := ?_) rfl rfl (any_of HT_.out (by kernel_rfl)) (fun _ _ _ h => h) (Or.inr ⟨by rfl, rfl⟩) ?_ ?_
            rotate_left; (· (simp only [Act.put, sA_, sZ_, sS_, i64_w, i32_w]; rfl))
            refine pu_ (i := 43) (N := some 56) (v := ?_) (a' := ?_) rfl rfl (any_of HT_.out (by kernel_rfl)) (fun _ _ _ h => h) (Or.inl ⟨by rfl, ?_⟩) ?_ ?_; rotate_left; (· (intro w'; go_simp; with_reducible rfl)); rotate_left; (· (simp only [Act.put, sA_, sZ_, sS_, i64_w, i32_w]; rfl))
            refine done_ (done_of HT_.out (by kernel_rfl)) ?_
            try go_wp2
            go_meet
            case rel => exact ⟨_, (true), (by first | rfl | (simp; done) | (simp [*]; done)), H', ⟨by have := HK1.out; first | omega | exact Nat.le_refl _⟩, ⟨by (with_reducible repeat (first | refine blk_drewN ?_ _ | refine blk_drew ?_ | refine blk_alloc ?_ _)); exact BK177.out⟩, ⟨by (with_reducible repeat (first | refine blk_drewN ?_ _ | refine blk_drew ?_ | refine blk_alloc ?_ _)); exact BK179.out⟩, ⟨by repeat (first | (with_reducible first | exact HB.out | apply below_alloc | apply pw_below_drewN | apply below_drew1 | refine below_set ?_ GE177.out | refine below_set ?_ GE179.out) | exact HB.out)⟩⟩
         ·rw [if_neg c14] at H
          exact absurd H (by simp)
        ·rw [if_neg c13] at H
         exact absurd H (by simp)
       ·rw [if_neg c11] at H
        have c11b0 : decide (0 < x8_1) = false := decide_eq_false c11
        clear c11
        (first | rw [c11b0] | (simp only [i64_w, i32_w]; rw [c11b0]) | skip)
        replace H := Option.bind_eq_some_iff.mp H
        obtain ⟨t184, A400, H⟩ := H
        replace H : (if t184 = true then ((impl_in.f ((rd_T104 l0_2 x8_1).f1) 0 2).bind fun t185 => (if t185 = true then ((impl_in.f ((rd_T104 l0_2 x8_1).f2) (-1000000) 1000000).bind fun t186 => (if t186 = true then (if ((rd_T104 l0_2 x8_1).f1) = 0 then (impl_CertOk.j1 k1 l0_2 (l0_2.length : Int) x8_1 false a0_0 l0_1 l0_2) else (impl_CertOk.j1 k1 l0_2 (l0_2.length : Int) x8_1 (((rd_T104 l0_2 x8_1).f2) != 0) a0_0 l0_1 l0_2)) else (impl_CertOk.j1 k1 l0_2 (l0_2.length : Int) x8_1 true a0_0 l0_1 l0_2))) else (impl_CertOk.j1 k1 l0_2 (l0_2.length : Int) x8_1 true a0_0 l0_1 l0_2))) else (impl_CertOk.j1 k1 l0_2 (l0_2.length : Int) x8_1 true a0_0 l0_1 l0_2)) = some r := H
        have A40 := Aside0.mk A400
        clear A400
        by_cases c41 : t184 = true
        ·subst c41
         have H1 : ((impl_in.f ((rd_T104 l0_2 x8_1).f1) 0 2).bind fun t185 => (if t185 = true then ((impl_in.f ((rd_T104 l0_2 x8_1).f2) (-1000000) 1000000).bind fun t186 => (if t186 = true then (if ((rd_T104 l0_2 x8_1).f1) = 0 then (impl_CertOk.j1 k1 l0_2 (l0_2.length : Int) x8_1 false a0_0 l0_1 l0_2) else (impl_CertOk.j1 k1 l0_2 (l0_2.length : Int) x8_1 (((rd_T104 l0_2 x8_1).f2) != 0) a0_0 l0_1 l0_2)) else (impl_CertOk.j1 k1 l0_2 (l0_2.length : Int) x8_1 true a0_0 l0_1 l0_2))) else (impl_CertOk.j1 k1 l0_2 (l0_2.length : Int) x8_1 true a0_0 l0_1 l0_2))) = some r := by rw [if_pos rfl] at H; exact H
         clear H
         have H := H1
         clear H1
         replace H := Option.bind_eq_some_iff.mp H
         obtain ⟨t185, A420, H⟩ := H
         replace H : (if t185 = true then ((impl_in.f ((rd_T104 l0_2 x8_1).f2) (-1000000) 1000000).bind fun t186 => (if t186 = true then (if ((rd_T104 l0_2 x8_1).f1) = 0 then (impl_CertOk.j1 k1 l0_2 (l0_2.length : Int) x8_1 false a0_0 l0_1 l0_2) else (impl_CertOk.j1 k1 l0_2 (l0_2.length : Int) x8_1 (((rd_T104 l0_2 x8_1).f2) != 0) a0_0 l0_1 l0_2)) else (impl_CertOk.j1 k1 l0_2 (l0_2.length : Int) x8_1 true a0_0 l0_1 l0_2))) else (impl_CertOk.j1 k1 l0_2 (l0_2.length : Int) x8_1 true a0_0 l0_1 l0_2)) = some r := H
         have A42 := Aside0.mk A420
         clear A420
         by_cases c43 : t185 = true
         ·subst c43
          have H1 : ((impl_in.f ((rd_T104 l0_2 x8_1).f2) (-1000000) 1000000).bind fun t186 => (if t186 = true then (if ((rd_T104 l0_2 x8_1).f1) = 0 then (impl_CertOk.j1 k1 l0_2 (l0_2.length : Int) x8_1 false a0_0 l0_1 l0_2) else (impl_CertOk.j1 k1 l0_2 (l0_2.length : Int) x8_1 (((rd_T104 l0_2 x8_1).f2) != 0) a0_0 l0_1 l0_2)) else (impl_CertOk.j1 k1 l0_2 (l0_2.length : Int) x8_1 true a0_0 l0_1 l0_2))) = some r := by rw [if_pos rfl] at H; exact H
          clear H
          have H := H1
          clear H1
          replace H := Option.bind_eq_some_iff.mp H
          obtain ⟨t186, A440, H⟩ := H
          replace H : (if t186 = true then (if ((rd_T104 l0_2 x8_1).f1) = 0 then (impl_CertOk.j1 k1 l0_2 (l0_2.length : Int) x8_1 false a0_0 l0_1 l0_2) else (impl_CertOk.j1 k1 l0_2 (l0_2.length : Int) x8_1 (((rd_T104 l0_2 x8_1).f2) != 0) a0_0 l0_1 l0_2)) else (impl_CertOk.j1 k1 l0_2 (l0_2.length : Int) x8_1 true a0_0 l0_1 l0_2)) = some r := H
          have A44 := Aside0.mk A440
          clear A440
          by_cases c45 : t186 = true
          ·subst c45
           have H1 : (if ((rd_T104 l0_2 x8_1).f1) = 0 then (impl_CertOk.j1 k1 l0_2 (l0_2.length : Int) x8_1 false a0_0 l0_1 l0_2) else (impl_CertOk.j1 k1 l0_2 (l0_2.length : Int) x8_1 (((rd_T104 l0_2 x8_1).f2) != 0) a0_0 l0_1 l0_2)) = some r := by rw [if_pos rfl] at H; exact H
           clear H
           have H := H1
           clear H1
           by_cases c46 : ((rd_T104 l0_2 x8_1).f1) = 0
           ·rw [if_pos c46] at H
            have c46b0 : (((rd_T104 l0_2 x8_1).f1) == 0) = true := beq_iff_eq.mpr c46
            have c46b1 : (((rd_T104 l0_2 x8_1).f1) != 0) = false := bne_eq_false_iff_eq.mpr c46
            clear c46
            have H' := Aside0.mk H
            clear H
            try go_wp2
            have n0_ : Aside0 (((((w8.setCell ⟨gb179, 0, none⟩ (.int .i64 ((rd_T104 l0_2 x8_1).f0.f0))).setCell ⟨gb179, 1, none⟩ (.int .i64 ((rd_T104 l0_2 x8_1).f0.f1))).setCell ⟨gb179, 2, none⟩ (.int .i64 ((rd_T104 l0_2 x8_1).f1))).setCell ⟨gb179, 3, none⟩ (.int .i64 ((rd_T104 l0_2 x8_1).f2))).heap[gb177]? = some (.cells #[.int .i64 a0_0, .slice A0_1 l0_1.length c0_1, .slice (some ad178) l0_2.length c0_2] 25 (0, 0))) := ⟨by (with_reducible repeat (first | refine blk_drewN ?_ _ | refine blk_drew ?_ | refine blk_alloc ?_ _)); refine blk_far ?_ NB177_179.out _; (with_reducible repeat (first | refine blk_drewN ?_ _ | refine blk_drew ?_ | refine blk_alloc ?_ _)); refine blk_far ?_ NB177_179.out _; (with_reducible repeat (first | refine blk_drewN ?_ _ | refine blk_drew ?_ | refine blk_alloc ?_ _)); refine blk_far ?_ NB177_179.out _; (with_reducible repeat (first | refine blk_drewN ?_ _ | refine blk_drew ?_ | refine blk_alloc ?_ _)); refine blk_far ?_ NB177_179.out _; (with_reducible repeat (first | refine blk_drewN ?_ _ | refine blk_drew ?_ | refine blk_alloc ?_ _)); exact BK177.out⟩
            have n1_ : Aside0 (((((w8.setCell ⟨gb179, 0, none⟩ (.int .i64 ((rd_T104 l0_2 x8_1).f0.f0))).setCell ⟨gb179, 1, none⟩ (.int .i64 ((rd_T104 l0_2 x8_1).f0.f1))).setCell ⟨gb179, 2, none⟩ (.int .i64 ((rd_T104 l0_2 x8_1).f1))).setCell ⟨gb179, 3, none⟩ (.int .i64 ((rd_T104 l0_2 x8_1).f2))).heap[gb179]? = some (.cells #[.int .i64 ((rd_T104 l0_2 x8_1).f0.f0), .int .i64 ((rd_T104 l0_2 x8_1).f0.f1), .int .i64 ((rd_T104 l0_2 x8_1).f1), .int .i64 ((rd_T104 l0_2 x8_1).f2)] 104 (0, 0))) := ⟨by (with_reducible repeat (first | refine blk_drewN ?_ _ | refine blk_drew ?_ | refine blk_alloc ?_ _)); refine blk_put (cs := #[.int .i64 ((rd_T104 l0_2 x8_1).f0.f0), .int .i64 ((rd_T104 l0_2 x8_1).f0.f1), .int .i64 ((rd_T104 l0_2 x8_1).f1), .int .i64 0]) ?_ 3 _ rfl; (with_reducible repeat (first | refine blk_drewN ?_ _ | refine blk_drew ?_ | refine blk_alloc ?_ _)); refine blk_put (cs := #[.int .i64 ((rd_T104 l0_2 x8_1).f0.f0), .int .i64 ((rd_T104 l0_2 x8_1).f0.f1), .int .i64 0, .int .i64 0]) ?_ 2 _ rfl; (with_reducible repeat (first | refine blk_drewN ?_ _ | refine blk_drew ?_ | refine blk_alloc ?_ _)); refine blk_put (cs := #[.int .i64 ((rd_T104 l0_2 x8_1).f0.f0), .int .i64 0, .int .i64 0, .int .i64 0]) ?_ 1 _ rfl; (with_reducible repeat (first | refine blk_drewN ?_ _ | refine blk_drew ?_ | refine blk_alloc ?_ _)); refine blk_put (cs := #[.int .i64 0, .int .i64 0, .int .i64 0, .int .i64 0]) ?_ 0 _ rfl; (with_reducible repeat (first | refine blk_drewN ?_ _ | refine blk_drew ?_ | refine blk_alloc ?_ _)); exact BK179.out⟩
            have n2_ : Aside0 (Below w.heap.size w ((((w8.setCell ⟨gb179, 0, none⟩ (.int .i64 ((rd_T104 l0_2 x8_1).f0.f0))).setCell ⟨gb179, 1, none⟩ (.int .i64 ((rd_T104 l0_2 x8_1).f0.f1))).setCell ⟨gb179, 2, none⟩ (.int .i64 ((rd_T104 l0_2 x8_1).f1))).setCell ⟨gb179, 3, none⟩ (.int .i64 ((rd_T104 l0_2 x8_1).f2)))) := ⟨by repeat (first | (with_reducible first | exact HB.out | apply below_alloc | apply pw_below_drewN | apply below_drew1 | refine below_set ?_ GE177.out | refine below_set ?_ GE179.out) | exact HB.out)⟩
            (try clear BK177)
            (try clear BK179)
            (try clear HB)
            generalize ((((w8.setCell ⟨gb179, 0, none⟩ (.int .i64 ((rd_T104 l0_2 x8_1).f0.f0))).setCell ⟨gb179, 1, none⟩ (.int .i64 ((rd_T104 l0_2 x8_1).f0.f1))).setCell ⟨gb179, 2, none⟩ (.int .i64 ((rd_T104 l0_2 x8_1).f1))).setCell ⟨gb179, 3, none⟩ (.int .i64 ((rd_T104 l0_2 x8_1).f2))) = w47 at n0_ n1_ n2_ ⊢
            have BK177 := n0_
            have BK179 := n1_
            have HB := n2_
            clear n0_ n1_ n2_
            have n0_ := Aside0.mk (blk_drew BK177.out)
            have n1_ := Aside0.mk (blk_drew BK179.out)
            have n2_ := Aside0.mk (below_drew1 HB.out)
            clear BK177
            clear BK179
            clear HB
            have BK177 := n0_
            have BK179 := n1_
            have HB := n2_
            clear n0_ n1_ n2_
            refine start_ (n := 44) (S := fun w' => w'.cell? ⟨gb179, 0, none⟩ = some (.int .i64 ((rd_T104 l0_2 x8_1).f0.f0)) ∧ w'.cell? ⟨gb179, 1, none⟩ = some (.int .i64 ((rd_T104 l0_2 x8_1).f0.f1)) ∧ w'.cell? ⟨gb179, 2, none⟩ = some (.int .i64 ((rd_T104 l0_2 x8_1).f1)) ∧ w'.cell? ⟨gb179, 3, none⟩ = some (.int .i64 ((rd_T104 l0_2 x8_1).f2))) (ds := []) #[false, false, false, false, false, false, false, false, false, false, false, false, false, false, false, false, false, false, false, false, false, false, false, false, false, false, false, false, false, false, false, false, false, false, false, false, false, false, false, false, false, false, false, false] (by kernel_rfl) rfl rfl ⟨(blk_cell BK179.out 0).trans rfl, (blk_cell BK179.out 1).trans rfl, (blk_cell BK179.out 2).trans rfl, (blk_cell BK179.out 3).trans rfl⟩ (fun hHeld => ?_); refine with_tabW impl_CertOk.tab4 impl_CertOk.bits4 (fun HT_ HW_ => ?_)
            generalize w47.drew = w48 at BK177 BK179 HB hHeld ⊢
            refine pu_ (i := 0) (N := some 13) (v := ?_) (a' := ?_) rfl rfl (any_of HT_.out (by kernel_rfl)) (fun _ _ _ h => h) (Or.inl ⟨by rfl, ?_⟩) ?_ ?_; rotate_left; (· (intro w'; go_simp; with_reducible rfl)); rotate_left; (· (simp only [Act.put, sA_, sZ_, sS_, i64_w, i32_w]; rfl))
            refine pu_ (i := 1) (N := some 14) (v := ?_) (a' := ?_) rfl rfl (any_of HT_.out (by kernel_rfl)) (fun _ _ _ h => h) (Or.inl ⟨by rfl, ?_⟩) ?_ ?_; rotate_left; (· (intro w'; go_simp; with_reducible rfl))
            rotate_left; (· (simp only [Act.put, sA_, sZ_, sS_, i64_w, i32_w]; rfl))
            refine pu_ (i := 2) (N := some 15) (v := ?_) (a' := ?_) rfl rfl (any_of HT_.out (by kernel_rfl)) (fun _ _ _ h => h) (Or.inl ⟨by rfl, ?_⟩) ?_ ?_; rotate_left; (· (intro w'; go_simp; with_reducible rfl)); rotate_left; (· (simp only [Act.put, sA_, sZ_, sS_, i64_w, i32_w]; rfl))
            refine pu_ (i := 3) (N := some 16) (v := undef) (a' := ?_) rfl rfl (any_of HT_.out (by kernel_rfl)) (fun _ _ _ h => h) (Or.inr ⟨by rfl, rfl⟩) ?_ ?_; rotate_left; (· (simp only [Act.put, sA_, sZ_, sS_, i64_w, i32_w]; rfl))
            refine pu_ (i := 4) (N := some 17) (v := undef) (a' := ?_) rfl rfl (any_of HT_.out (by kernel_rfl)) (fun _ _ _ h => h) (Or.inr ⟨by rfl, rfl⟩) ?_ ?_
            rotate_left; (· (simp only [Act.put, sA_, sZ_, sS_, i64_w, i32_w]; rfl))
            refine pu_ (i := 5) (N := some 18) (v := undef) (a' := ?_) rfl rfl (any_of HT_.out (by kernel_rfl)) (fun _ _ _ h => h) (Or.inr ⟨by rfl, rfl⟩) ?_ ?_; rotate_left; (· (simp only [Act.put, sA_, sZ_, sS_, i64_w, i32_w]; rfl))
            refine pu_ (i := 6) (N := some 19) (v := undef) (a' := ?_) rfl rfl (any_of HT_.out (by kernel_rfl)) (fun _ _ _ h => h) (Or.inr ⟨by rfl, rfl⟩) ?_ ?_
            rotate_left; (· (simp only [Act.put, sA_, sZ_, sS_, i64_w, i32_w]; rfl))
            refine pu_ (i := 7) (N := some 20) (v := undef) (a' := ?_) rfl rfl (any_of HT_.out (by kernel_rfl)) (fun _ _ _ h => h) (Or.inr ⟨by rfl, rfl⟩) ?_ ?_; rotate_left; (· (simp only [Act.put, sA_, sZ_, sS_, i64_w, i32_w]; rfl))
            refine pu_ (i := 8) (N := some 21) (v := undef) (a' := ?_) rfl rfl (any_of HT_.out (by kernel_rfl)) (fun _ _ _ h => h) (Or.inr ⟨by rfl, rfl⟩) ?_ ?_
            rotate_left; (· (simp only [Act.put, sA_, sZ_, sS_, i64_w, i32_w]; rfl))
            refine pu_ (i := 9) (N := some 22) (v := undef) (a' := ?_) rfl rfl (any_of HT_.out (by kernel_rfl)) (fun _ _ _ h => h) (Or.inr ⟨by rfl, rfl⟩) ?_ ?_; rotate_left; (· (simp only [Act.put, sA_, sZ_, sS_, i64_w, i32_w]; rfl))
            refine pu_ (i := 10) (N := some 23) (v := undef) (a' := ?_) rfl rfl (any_of HT_.out (by kernel_rfl)) (fun _ _ _ h => h) (Or.inr ⟨by rfl, rfl⟩) ?_ ?_
            rotate_left; (· (simp only [Act.put, sA_, sZ_, sS_, i64_w, i32_w]; rfl))
            refine pu_ (i := 11) (N := some 24) (v := undef) (a' := ?_) rfl rfl (any_of HT_.out (by kernel_rfl)) (fun _ _ _ h => h) (Or.inr ⟨by rfl, rfl⟩) ?_ ?_; rotate_left; (· (simp only [Act.put, sA_, sZ_, sS_, i64_w, i32_w]; rfl))
            refine pu_ (i := 12) (N := some 25) (v := undef) (a' := ?_) rfl rfl (any_of HT_.out (by kernel_rfl)) (fun _ _ _ h => h) (Or.inr ⟨by rfl, rfl⟩) ?_ ?_
            rotate_left; (· (simp only [Act.put, sA_, sZ_, sS_, i64_w, i32_w]; rfl))
            refine pu_ (i := 13) (N := some 26) (v := undef) (a' := ?_) rfl rfl (any_of HT_.out (by kernel_rfl)) (fun _ _ _ h => h) (Or.inr ⟨by rfl, rfl⟩) ?_ ?_; rotate_left; (· (simp only [Act.put, sA_, sZ_, sS_, i64_w, i32_w]; rfl))
            refine pu_ (i := 14) (N := some 27) (v := undef) (a' := ?_) rfl rfl (any_of HT_.out (by kernel_rfl)) (fun _ _ _ h => h) (Or.inr ⟨by rfl, rfl⟩) ?_ ?_
            rotate_left; (· (simp only [Act.put, sA_, sZ_, sS_, i64_w, i32_w]; rfl))
            refine pu_ (i := 15) (N := some 28) (v := ?_) (a' := ?_) rfl rfl (any_of HT_.out (by kernel_rfl)) (fun _ _ _ h => h) (Or.inl ⟨by rfl, ?_⟩) ?_ ?_; rotate_left; (· (intro w'; go_simp; with_reducible rfl)); rotate_left; (· (simp only [Act.put, sA_, sZ_, sS_, i64_w, i32_w]; rfl))
            refine pu_ (i := 16) (N := some 29) (v := ?_) (a' := ?_) rfl rfl (any_of HT_.out (by kernel_rfl)) (fun _ _ _ h => h) (Or.inl ⟨by rfl, ?_⟩) ?_ ?_; rotate_left; (· (intro w'; go_simp; with_reducible rfl))
            rotate_left; (· (simp only [Act.put, sA_, sZ_, sS_, i64_w, i32_w]; rfl))
            refine pu_ (i := 17) (N := some 30) (v := ?_) (a' := ?_) rfl rfl (any_of HT_.out (by kernel_rfl)) (fun _ _ _ h => h) (Or.inl ⟨by rfl, ?_⟩) ?_ ?_; rotate_left; (· (intro w'; go_simp; with_reducible rfl)); rotate_left; (· (simp only [Act.put, sA_, sZ_, sS_, i64_w, i32_w]; rfl))
            refine ta_ (i := 18) (N := some 31) (v := ?_) (a' := ?_) rfl rfl (take_ofW HT_.out HW_.out (by kernel_rfl)) (fun _ _ _ h => h) (Or.inl ⟨by rfl, ?_⟩) hHeld ?_ ?_
            rotate_left
            ·rintro w' ⟨s0, s1, s2, s3⟩
             go_simp
             with_reducible rfl
            rotate_left; (· (simp only [Act.put, sA_, sZ_, sS_, i64_w, i32_w]; rfl))
            refine on_ (i := 19) (N := some 32) rfl rfl (one_of HT_.out (by kernel_rfl)) (by decide) (fun K hK => ?_)
            refine goes_ Try.func91 (by kernel_rfl) rfl #[.agg #[.int .i64 ((rd_T104 l0_2 x8_1).f0.f0), .int .i64 ((rd_T104 l0_2 x8_1).f0.f1)]] (by rfl) rfl rfl (by (try simp only [List.map_toArray, List.map_cons, List.map_nil]); first | done | rfl | (simp only [List.length_drop, List.length_take]; rfl)) ?_
            with_reducible refine (impl_reqOk.calls ((rd_T104 l0_2 x8_1).f0.f0) ((rd_T104 l0_2 x8_1).f0.f1) true _ A40.out).mono ?_
            rintro e w49 ⟨rfl, hb⟩
            refine ⟨_, rfl, ?_⟩
            have n0_ := Aside0.mk (blk_below (g := gb177) (o := .cells #[.int .i64 a0_0, .slice A0_1 l0_1.length c0_1, .slice (some ad178) l0_2.length c0_2] 25 (0, 0)) (by (with_reducible repeat (first | refine blk_drewN ?_ _ | refine blk_drew ?_ | refine blk_alloc ?_ _)); exact BK177.out) hb)
            have n1_ := Aside0.mk (blk_below (g := gb179) (o := .cells #[.int .i64 ((rd_T104 l0_2 x8_1).f0.f0), .int .i64 ((rd_T104 l0_2 x8_1).f0.f1), .int .i64 ((rd_T104 l0_2 x8_1).f1), .int .i64 ((rd_T104 l0_2 x8_1).f2)] 104 (0, 0)) (by (with_reducible repeat (first | refine blk_drewN ?_ _ | refine blk_drew ?_ | refine blk_alloc ?_ _)); exact BK179.out) hb)
            have n2_ := Aside0.mk (below_step (by repeat (first | (with_reducible first | exact HB.out | apply below_alloc | apply pw_below_drewN | apply below_drew1 | refine below_set ?_ GE177.out | refine below_set ?_ GE179.out) | exact HB.out)) hb)
            clear BK177
            clear BK179
            clear HB
            have BK177 := n0_
            have BK179 := n1_
            have HB := n2_
            clear n0_ n1_ n2_
            (try clear hb)
            (try clear hb2)
            (try clear hk)
            (try clear hi)
            refine hK.out _ _ ⟨(blk_cell BK179.out 0).trans rfl, (blk_cell BK179.out 1).trans rfl, (blk_cell BK179.out 2).trans rfl, (blk_cell BK179.out 3).trans rfl⟩ (fun hHeld => ?_)
            clear hK K
            refine norm_ (a' := ?_) ?_ ?_
            rotate_left
            ·show Act.put _ (some 32) _ = _
             simp only [Act.put, sA_, sZ_, sS_, i64_w, i32_w]
             rfl
            refine pu_ (i := 20) (N := some 33) (v := ?_) (a' := ?_) rfl rfl (any_of HT_.out (by kernel_rfl)) (fun _ _ _ h => h) (Or.inl ⟨by rfl, ?_⟩) ?_ ?_; rotate_left; (· (intro w'; go_simp; with_reducible rfl)); rotate_left; (· (simp only [Act.put, sA_, sZ_, sS_, i64_w, i32_w]; rfl))
            refine pu_ (i := 21) (N := some 34) (v := ?_) (a' := ?_) rfl rfl (any_of HT_.out (by kernel_rfl)) (fun _ _ _ h => h) (Or.inl ⟨by rfl, ?_⟩) ?_ ?_; rotate_left; (· (intro w'; go_simp; with_reducible rfl))
            rotate_left; (· (simp only [Act.put, sA_, sZ_, sS_, i64_w, i32_w]; rfl))
            refine pu_ (i := 22) (N := some 35) (v := ?_) (a' := ?_) rfl rfl (any_of HT_.out (by kernel_rfl)) (fun _ _ _ h => h) (Or.inl ⟨by rfl, ?_⟩) ?_ ?_; rotate_left; (· (intro w'; go_simp; with_reducible rfl)); rotate_left; (· (simp only [Act.put, sA_, sZ_, sS_, i64_w, i32_w]; rfl))
            refine pu_ (i := 23) (N := some 36) (v := ?_) (a' := ?_) rfl rfl (any_of HT_.out (by kernel_rfl)) (fun _ _ _ h => h) (Or.inl ⟨by rfl, ?_⟩) ?_ ?_; rotate_left; (· (intro w'; go_simp; with_reducible rfl))
            rotate_left; (· (simp only [Act.put, sA_, sZ_, sS_, i64_w, i32_w]; rfl))
            refine ta_ (i := 24) (N := some 37) (v := ?_) (a' := ?_) rfl rfl (take_ofW HT_.out HW_.out (by kernel_rfl)) (fun _ _ _ h => h) (Or.inl ⟨by rfl, ?_⟩) hHeld ?_ ?_
            rotate_left
            ·rintro w' ⟨s0, s1, s2, s3⟩
             go_simp
             with_reducible rfl
            rotate_left; (· (simp only [Act.put, sA_, sZ_, sS_, i64_w, i32_w]; rfl))
            refine on_ (i := 25) (N := some 38) rfl rfl (one_of HT_.out (by kernel_rfl)) (by decide) (fun K hK => ?_)
            refine goes_ Try.func78 (by kernel_rfl) rfl #[.int .i64 ((rd_T104 l0_2 x8_1).f1), .int .i64 0, .int .i64 2] (by rfl) rfl rfl (by (try simp only [List.map_toArray, List.map_cons, List.map_nil]); first | done | rfl | (simp only [List.length_drop, List.length_take]; rfl)) ?_
            with_reducible refine (impl_in.calls ((rd_T104 l0_2 x8_1).f1) 0 2 true _ A42.out).mono ?_
            rintro e w' ⟨rfl, ⟨nd, rfl⟩⟩
            refine ⟨_, rfl, ?_⟩
            refine hK.out _ _ ⟨(blk_cell BK179.out 0).trans rfl, (blk_cell BK179.out 1).trans rfl, (blk_cell BK179.out 2).trans rfl, (blk_cell BK179.out 3).trans rfl⟩ (fun hHeld => ?_)
            clear hK K
            refine norm_ (a' := ?_) ?_ ?_
            rotate_left
            ·show Act.put _ (some 38) _ = _
             simp only [Act.put, sA_, sZ_, sS_, i64_w, i32_w]
             rfl
            refine pu_ (i := 26) (N := some 39) (v := ?_) (a' := ?_) rfl rfl (any_of HT_.out (by kernel_rfl)) (fun _ _ _ h => h) (Or.inl ⟨by rfl, ?_⟩) ?_ ?_; rotate_left; (· (intro w'; go_simp; with_reducible rfl)); rotate_left; (· (simp only [Act.put, sA_, sZ_, sS_, i64_w, i32_w]; rfl))
            refine pu_ (i := 27) (N := some 40) (v := ?_) (a' := ?_) rfl rfl (any_of HT_.out (by kernel_rfl)) (fun _ _ _ h => h) (Or.inl ⟨by rfl, ?_⟩) ?_ ?_; rotate_left; (· (intro w'; go_simp; with_reducible rfl))
            rotate_left; (· (simp only [Act.put, sA_, sZ_, sS_, i64_w, i32_w]; rfl))
            refine pu_ (i := 28) (N := some 41) (v := ?_) (a' := ?_) rfl rfl (any_of HT_.out (by kernel_rfl)) (fun _ _ _ h => h) (Or.inl ⟨by rfl, ?_⟩) ?_ ?_; rotate_left; (· (intro w'; go_simp; with_reducible rfl)); rotate_left; (· (simp only [Act.put, sA_, sZ_, sS_, i64_w, i32_w]; rfl))
            refine pu_ (i := 29) (N := some 42) (v := ?_) (a' := ?_) rfl rfl (any_of HT_.out (by kernel_rfl)) (fun _ _ _ h => h) (Or.inl ⟨by rfl, ?_⟩) ?_ ?_; rotate_left; (· (intro w'; go_simp; with_reducible rfl))
            rotate_left; (· (simp only [Act.put, sA_, sZ_, sS_, i64_w, i32_w]; rfl))
            refine ta_ (i := 30) (N := some 43) (v := ?_) (a' := ?_) rfl rfl (take_ofW HT_.out HW_.out (by kernel_rfl)) (fun _ _ _ h => h) (Or.inl ⟨by rfl, ?_⟩) hHeld ?_ ?_
            rotate_left
            ·rintro w' ⟨s0, s1, s2, s3⟩
             go_simp
             with_reducible rfl
            rotate_left; (· (simp only [Act.put, sA_, sZ_, sS_, i64_w, i32_w]; rfl))
            refine on_ (i := 31) (N := some 44) rfl rfl (one_of HT_.out (by kernel_rfl)) (by decide) (fun K hK => ?_)
            refine goes_ Try.func78 (by kernel_rfl) rfl #[.int .i64 ((rd_T104 l0_2 x8_1).f2), .int .i64 (-1000000), .int .i64 1000000] (by rfl) rfl rfl (by (try simp only [List.map_toArray, List.map_cons, List.map_nil]); first | done | rfl | (simp only [List.length_drop, List.length_take]; rfl)) ?_
            with_reducible refine (impl_in.calls ((rd_T104 l0_2 x8_1).f2) (-1000000) 1000000 true _ A44.out).mono ?_
            rintro e w' ⟨rfl, ⟨nd, rfl⟩⟩
            refine ⟨_, rfl, ?_⟩
            refine hK.out _ _ ⟨(blk_cell BK179.out 0).trans rfl, (blk_cell BK179.out 1).trans rfl, (blk_cell BK179.out 2).trans rfl, (blk_cell BK179.out 3).trans rfl⟩ (fun hHeld => ?_)
            clear hK K
            refine norm_ (a' := ?_) ?_ ?_
            rotate_left
            ·show Act.put _ (some 44) _ = _
             simp only [Act.put, sA_, sZ_, sS_, i64_w, i32_w]
             rfl
            refine pu_ (i := 32) (N := some 45) (v := ?_) (a' := ?_) rfl rfl (any_of HT_.out (by kernel_rfl)) (fun _ _ _ h => h) (Or.inl ⟨by rfl, ?_⟩) ?_ ?_; rotate_left; (· (intro w'; go_simp; with_reducible rfl)); rotate_left; (· (simp only [Act.put, sA_, sZ_, sS_, i64_w, i32_w]; rfl))
            refine pu_ (i := 33) (N := some 46) (v := ?_) (a' := ?_) rfl rfl (any_of HT_.out (by kernel_rfl)) (fun _ _ _ h => h) (Or.inl ⟨by rfl, ?_⟩) ?_ ?_; rotate_left; (· (intro w'; go_simp; with_reducible rfl))
            rotate_left; (· (simp only [Act.put, sA_, sZ_, sS_, i64_w, i32_w]; rfl))
            refine pu_ (i := 34) (N := some 47) (v := ?_) (a' := ?_) rfl rfl (any_of HT_.out (by kernel_rfl)) (fun _ _ _ h => h) (Or.inl ⟨by rfl, ?_⟩) ?_ ?_; rotate_left; (· (intro w'; go_simp; with_reducible rfl)); rotate_left; (· (simp only [Act.put, sA_, sZ_, sS_, i64_w, i32_w]; rfl))
            refine pu_ (i := 35) (N := some 48) (v := ?_) (a' := ?_) rfl rfl (any_of HT_.out (by kernel_rfl)) (fun _ _ _ h => h) (Or.inl ⟨by rfl, ?_⟩) ?_ ?_; rotate_left; (· (intro w'; go_simp; with_reducible rfl))
            rotate_left; (· (simp only [Act.put, sA_, sZ_, sS_, i64_w, i32_w]; rfl))
            refine ta_ (i := 36) (N := some 49) (v := ?_) (a' := ?_) rfl rfl (take_ofW HT_.out HW_.out (by kernel_rfl)) (fun _ _ _ h => h) (Or.inl ⟨by rfl, ?_⟩) hHeld ?_ ?_
            rotate_left
            ·rintro w' ⟨s0, s1, s2, s3⟩
             go_simp
             with_reducible rfl
            rotate_left; (· (simp only [Act.put, sA_, sZ_, sS_, i64_w, i32_w]; rfl))
            refine pu_ (i := 37) (N := some 50) (v := ?_) (a' := ?_) rfl rfl (any_of HT_.out (by kernel_rfl)) (fun _ _ _ h => h) (Or.inl ⟨by rfl, ?_⟩) ?_ ?_; rotate_left; (· (intro w'; go_simp; with_reducible rfl)); rotate_left; (· (simp only [Act.put, sA_, sZ_, sS_, i64_w, i32_w]; rfl))
            refine pu_ (i := 38) (N := some 51) (v := ?_) (a' := ?_) rfl rfl (any_of HT_.out (by kernel_rfl)) (fun _ _ _ h => h) (Or.inl ⟨by rfl, ?_⟩) ?_ ?_; rotate_left; (· (intro w'; go_simp; with_reducible rfl))
            rotate_left; (· (simp only [Act.put, sA_, sZ_, sS_, i64_w, i32_w]; rfl))
            refine pu_ (i := 39) (N := some 52) (v := undef) (a' := ?_) rfl rfl (any_of HT_.out (by kernel_rfl)) (fun _ _ _ h => h) (Or.inr ⟨by rfl, rfl⟩) ?_ ?_; rotate_left; (· (simp only [Act.put, sA_, sZ_, sS_, i64_w, i32_w]; rfl))
            refine pu_ (i := 40) (N := some 53) (v := undef) (a' := ?_) rfl rfl (any_of HT_.out (by kernel_rfl)) (fun _ _ _ h => h) (Or.inr ⟨by rfl, rfl⟩) ?_ ?_
            rotate_left; (· (simp only [Act.put, sA_, sZ_, sS_, i64_w, i32_w]; rfl))
            refine pu_ (i := 41) (N := some 54) (v := undef) (a' := ?_) rfl rfl (any_of HT_.out (by kernel_rfl)) (fun _ _ _ h => h) (Or.inr ⟨by rfl, rfl⟩) ?_ ?_; rotate_left; (· (simp only [Act.put, sA_, sZ_, sS_, i64_w, i32_w]; rfl))
            refine pu_ (i := 42) (N := some 55) (v := ?_) (a' := ?_) rfl rfl (any_of HT_.out (by kernel_rfl)) (fun _ _ _ h => h) (Or.inl ⟨by rfl, ?_⟩) ?_ ?_; rotate_left; (· (intro w'; go_simp; with_reducible rfl)); rotate_left; (· (simp only [Act.put, sA_, sZ_, sS_, i64_w, i32_w]; rfl))
            refine pu_ (i := 43) (N := some 56) (v := ?_) (a' := ?_) rfl rfl (any_of HT_.out (by kernel_rfl)) (fun _ _ _ h => h) (Or.inl ⟨by rfl, ?_⟩) ?_ ?_; rotate_left; (· (intro w'; go_simp; with_reducible rfl))
            rotate_left; (· (simp only [Act.put, sA_, sZ_, sS_, i64_w, i32_w]; rfl))
            refine done_ (done_of HT_.out (by kernel_rfl)) ?_
            try go_wp2
            go_meet
            case rel => exact ⟨_, (false), (by first | rfl | (simp; done) | (simp [*]; done)), H', ⟨by have := HK1.out; first | omega | exact Nat.le_refl _⟩, ⟨by (with_reducible repeat (first | refine blk_drewN ?_ _ | refine blk_drew ?_ | refine blk_alloc ?_ _)); exact BK177.out⟩, ⟨by (with_reducible repeat (first | refine blk_drewN ?_ _ | refine blk_drew ?_ | refine blk_alloc ?_ _)); exact BK179.out⟩, ⟨by repeat (first | (with_reducible first | exact HB.out | apply below_alloc | apply pw_below_drewN | apply below_drew1 | refine below_set ?_ GE177.out | refine below_set ?_ GE179.out) | exact HB.out)⟩⟩
           ·rw [if_neg c46] at H
            have c46b0 : (((rd_T104 l0_2 x8_1).f1) == 0) = false := beq_eq_false_iff_ne.mpr c46
            have c46b1 : (((rd_T104 l0_2 x8_1).f1) != 0) = true := bne_iff_ne.mpr c46
            have H' := Aside0.mk H
            clear H
            try go_wp2
            have n0_ : Aside0 (((((w8.setCell ⟨gb179, 0, none⟩ (.int .i64 ((rd_T104 l0_2 x8_1).f0.f0))).setCell ⟨gb179, 1, none⟩ (.int .i64 ((rd_T104 l0_2 x8_1).f0.f1))).setCell ⟨gb179, 2, none⟩ (.int .i64 ((rd_T104 l0_2 x8_1).f1))).setCell ⟨gb179, 3, none⟩ (.int .i64 ((rd_T104 l0_2 x8_1).f2))).heap[gb177]? = some (.cells #[.int .i64 a0_0, .slice A0_1 l0_1.length c0_1, .slice (some ad178) l0_2.length c0_2] 25 (0, 0))) := ⟨by (with_reducible repeat (first | refine blk_drewN ?_ _ | refine blk_drew ?_ | refine blk_alloc ?_ _)); refine blk_far ?_ NB177_179.out _; (with_reducible repeat (first | refine blk_drewN ?_ _ | refine blk_drew ?_ | refine blk_alloc ?_ _)); refine blk_far ?_ NB177_179.out _; (with_reducible repeat (first | refine blk_drewN ?_ _ | refine blk_drew ?_ | refine blk_alloc ?_ _)); refine blk_far ?_ NB177_179.out _; (with_reducible repeat (first | refine blk_drewN ?_ _ | refine blk_drew ?_ | refine blk_alloc ?_ _)); refine blk_far ?_ NB177_179.out _; (with_reducible repeat (first | refine blk_drewN ?_ _ | refine blk_drew ?_ | refine blk_alloc ?_ _)); exact BK177.out⟩
            have n1_ : Aside0 (((((w8.setCell ⟨gb179, 0, none⟩ (.int .i64 ((rd_T104 l0_2 x8_1).f0.f0))).setCell ⟨gb179, 1, none⟩ (.int .i64 ((rd_T104 l0_2 x8_1).f0.f1))).setCell ⟨gb179, 2, none⟩ (.int .i64 ((rd_T104 l0_2 x8_1).f1))).setCell ⟨gb179, 3, none⟩ (.int .i64 ((rd_T104 l0_2 x8_1).f2))).heap[gb179]? = some (.cells #[.int .i64 ((rd_T104 l0_2 x8_1).f0.f0), .int .i64 ((rd_T104 l0_2 x8_1).f0.f1), .int .i64 ((rd_T104 l0_2 x8_1).f1), .int .i64 ((rd_T104 l0_2 x8_1).f2)] 104 (0, 0))) := ⟨by (with_reducible repeat (first | refine blk_drewN ?_ _ | refine blk_drew ?_ | refine blk_alloc ?_ _)); refine blk_put (cs := #[.int .i64 ((rd_T104 l0_2 x8_1).f0.f0), .int .i64 ((rd_T104 l0_2 x8_1).f0.f1), .int .i64 ((rd_T104 l0_2 x8_1).f1), .int .i64 0]) ?_ 3 _ rfl; (with_reducible repeat (first | refine blk_drewN ?_ _ | refine blk_drew ?_ | refine blk_alloc ?_ _)); refine blk_put (cs := #[.int .i64 ((rd_T104 l0_2 x8_1).f0.f0), .int .i64 ((rd_T104 l0_2 x8_1).f0.f1), .int .i64 0, .int .i64 0]) ?_ 2 _ rfl; (with_reducible repeat (first | refine blk_drewN ?_ _ | refine blk_drew ?_ | refine blk_alloc ?_ _)); refine blk_put (cs := #[.int .i64 ((rd_T104 l0_2 x8_1).f0.f0), .int .i64 0, .int .i64 0, .int .i64 0]) ?_ 1 _ rfl; (with_reducible repeat (first | refine blk_drewN ?_ _ | refine blk_drew ?_ | refine blk_alloc ?_ _)); refine blk_put (cs := #[.int .i64 0, .int .i64 0, .int .i64 0, .int .i64 0]) ?_ 0 _ rfl; (with_reducible repeat (first | refine blk_drewN ?_ _ | refine blk_drew ?_ | refine blk_alloc ?_ _)); exact BK179.out⟩
            have n2_ : Aside0 (Below w.heap.size w ((((w8.setCell ⟨gb179, 0, none⟩ (.int .i64 ((rd_T104 l0_2 x8_1).f0.f0))).setCell ⟨gb179, 1, none⟩ (.int .i64 ((rd_T104 l0_2 x8_1).f0.f1))).setCell ⟨gb179, 2, none⟩ (.int .i64 ((rd_T104 l0_2 x8_1).f1))).setCell ⟨gb179, 3, none⟩ (.int .i64 ((rd_T104 l0_2 x8_1).f2)))) := ⟨by repeat (first | (with_reducible first | exact HB.out | apply below_alloc | apply pw_below_drewN | apply below_drew1 | refine below_set ?_ GE177.out | refine below_set ?_ GE179.out) | exact HB.out)⟩
            (try clear BK177)
            (try clear BK179)
            (try clear HB)
            generalize ((((w8.setCell ⟨gb179, 0, none⟩ (.int .i64 ((rd_T104 l0_2 x8_1).f0.f0))).setCell ⟨gb179, 1, none⟩ (.int .i64 ((rd_T104 l0_2 x8_1).f0.f1))).setCell ⟨gb179, 2, none⟩ (.int .i64 ((rd_T104 l0_2 x8_1).f1))).setCell ⟨gb179, 3, none⟩ (.int .i64 ((rd_T104 l0_2 x8_1).f2))) = w50 at n0_ n1_ n2_ ⊢
            have BK177 := n0_
            have BK179 := n1_
            have HB := n2_
            clear n0_ n1_ n2_
            have n0_ := Aside0.mk (blk_drew BK177.out)
            have n1_ := Aside0.mk (blk_drew BK179.out)
            have n2_ := Aside0.mk (below_drew1 HB.out)
            clear BK177
            clear BK179
            clear HB
            have BK177 := n0_
            have BK179 := n1_
            have HB := n2_
            clear n0_ n1_ n2_
            refine start_ (n := 44) (S := fun w' => w'.cell? ⟨gb179, 0, none⟩ = some (.int .i64 ((rd_T104 l0_2 x8_1).f0.f0)) ∧ w'.cell? ⟨gb179, 1, none⟩ = some (.int .i64 ((rd_T104 l0_2 x8_1).f0.f1)) ∧ w'.cell? ⟨gb179, 2, none⟩ = some (.int .i64 ((rd_T104 l0_2 x8_1).f1)) ∧ w'.cell? ⟨gb179, 3, none⟩ = some (.int .i64 ((rd_T104 l0_2 x8_1).f2))) (ds := []) #[false, false, false, false, false, false, false, false, false, false, false, false, false, false, false, false, false, false, false, false, false, false, false, false, false, false, false, false, false, false, false, false, false, false, false, false, false, false, false, false, false, false, false, false] (by kernel_rfl) rfl rfl ⟨(blk_cell BK179.out 0).trans rfl, (blk_cell BK179.out 1).trans rfl, (blk_cell BK179.out 2).trans rfl, (blk_cell BK179.out 3).trans rfl⟩ (fun hHeld => ?_); refine with_tabW impl_CertOk.tab4 impl_CertOk.bits4 (fun HT_ HW_ => ?_)
            generalize w50.drew = w51 at BK177 BK179 HB hHeld ⊢
            refine pu_ (i := 0) (N := some 13) (v := ?_) (a' := ?_) rfl rfl (any_of HT_.out (by kernel_rfl)) (fun _ _ _ h => h) (Or.inl ⟨by rfl, ?_⟩) ?_ ?_; rotate_left; (· (intro w'; go_simp; with_reducible rfl)); rotate_left; (· (simp only [Act.put, sA_, sZ_, sS_, i64_w, i32_w]; rfl))
            refine pu_ (i := 1) (N := some 14) (v := ?_) (a' := ?_) rfl rfl (any_of HT_.out (by kernel_rfl)) (fun _ _ _ h => h) (Or.inl ⟨by rfl, ?_⟩) ?_ ?_; rotate_left; (· (intro w'; go_simp; with_reducible rfl))
            rotate_left; (· (simp only [Act.put, sA_, sZ_, sS_, i64_w, i32_w]; rfl))
            refine pu_ (i := 2) (N := some 15) (v := ?_) (a' := ?_) rfl rfl (any_of HT_.out (by kernel_rfl)) (fun _ _ _ h => h) (Or.inl ⟨by rfl, ?_⟩) ?_ ?_; rotate_left; (· (intro w'; go_simp; with_reducible rfl)); rotate_left; (· (simp only [Act.put, sA_, sZ_, sS_, i64_w, i32_w]; rfl))
            refine pu_ (i := 3) (N := some 16) (v := undef) (a' := ?_) rfl rfl (any_of HT_.out (by kernel_rfl)) (fun _ _ _ h => h) (Or.inr ⟨by rfl, rfl⟩) ?_ ?_; rotate_left; (· (simp only [Act.put, sA_, sZ_, sS_, i64_w, i32_w]; rfl))
            refine pu_ (i := 4) (N := some 17) (v := undef) (a' := ?_) rfl rfl (any_of HT_.out (by kernel_rfl)) (fun _ _ _ h => h) (Or.inr ⟨by rfl, rfl⟩) ?_ ?_
            rotate_left; (· (simp only [Act.put, sA_, sZ_, sS_, i64_w, i32_w]; rfl))
            refine pu_ (i := 5) (N := some 18) (v := undef) (a' := ?_) rfl rfl (any_of HT_.out (by kernel_rfl)) (fun _ _ _ h => h) (Or.inr ⟨by rfl, rfl⟩) ?_ ?_; rotate_left; (· (simp only [Act.put, sA_, sZ_, sS_, i64_w, i32_w]; rfl))
            refine pu_ (i := 6) (N := some 19) (v := undef) (a' := ?_) rfl rfl (any_of HT_.out (by kernel_rfl)) (fun _ _ _ h => h) (Or.inr ⟨by rfl, rfl⟩) ?_ ?_
            rotate_left; (· (simp only [Act.put, sA_, sZ_, sS_, i64_w, i32_w]; rfl))
            refine pu_ (i := 7) (N := some 20) (v := undef) (a' := ?_) rfl rfl (any_of HT_.out (by kernel_rfl)) (fun _ _ _ h => h) (Or.inr ⟨by rfl, rfl⟩) ?_ ?_; rotate_left; (· (simp only [Act.put, sA_, sZ_, sS_, i64_w, i32_w]; rfl))
            refine pu_ (i := 8) (N := some 21) (v := undef) (a' := ?_) rfl rfl (any_of HT_.out (by kernel_rfl)) (fun _ _ _ h => h) (Or.inr ⟨by rfl, rfl⟩) ?_ ?_
            rotate_left; (· (simp only [Act.put, sA_, sZ_, sS_, i64_w, i32_w]; rfl))
            refine pu_ (i := 9) (N := some 22) (v := undef) (a' := ?_) rfl rfl (any_of HT_.out (by kernel_rfl)) (fun _ _ _ h => h) (Or.inr ⟨by rfl, rfl⟩) ?_ ?_; rotate_left; (· (simp only [Act.put, sA_, sZ_, sS_, i64_w, i32_w]; rfl))
            refine pu_ (i := 10) (N := some 23) (v := undef) (a' := ?_) rfl rfl (any_of HT_.out (by kernel_rfl)) (fun _ _ _ h => h) (Or.inr ⟨by rfl, rfl⟩) ?_ ?_
            rotate_left; (· (simp only [Act.put, sA_, sZ_, sS_, i64_w, i32_w]; rfl))
            refine pu_ (i := 11) (N := some 24) (v := undef) (a' := ?_) rfl rfl (any_of HT_.out (by kernel_rfl)) (fun _ _ _ h => h) (Or.inr ⟨by rfl, rfl⟩) ?_ ?_; rotate_left; (· (simp only [Act.put, sA_, sZ_, sS_, i64_w, i32_w]; rfl))
            refine pu_ (i := 12) (N := some 25) (v := undef) (a' := ?_) rfl rfl (any_of HT_.out (by kernel_rfl)) (fun _ _ _ h => h) (Or.inr ⟨by rfl, rfl⟩) ?_ ?_
            rotate_left; (· (simp only [Act.put, sA_, sZ_, sS_, i64_w, i32_w]; rfl))
            refine pu_ (i := 13) (N := some 26) (v := undef) (a' := ?_) rfl rfl (any_of HT_.out (by kernel_rfl)) (fun _ _ _ h => h) (Or.inr ⟨by rfl, rfl⟩) ?_ ?_; rotate_left; (· (simp only [Act.put, sA_, sZ_, sS_, i64_w, i32_w]; rfl))
            refine pu_ (i := 14) (N := some 27) (v := undef) (a' := ?_) rfl rfl (any_of HT_.out (by kernel_rfl)) (fun _ _ _ h => h) (Or.inr ⟨by rfl, rfl⟩) ?_ ?_
            rotate_left; (· (simp only [Act.put, sA_, sZ_, sS_, i64_w, i32_w]; rfl))
            refine pu_ (i := 15) (N := some 28) (v := ?_) (a' := ?_) rfl rfl (any_of HT_.out (by kernel_rfl)) (fun _ _ _ h => h) (Or.inl ⟨by rfl, ?_⟩) ?_ ?_; rotate_left; (· (intro w'; go_simp; with_reducible rfl)); rotate_left; (· (simp only [Act.put, sA_, sZ_, sS_, i64_w, i32_w]; rfl))
            refine pu_ (i := 16) (N := some 29) (v := ?_) (a' := ?_) rfl rfl (any_of HT_.out (by kernel_rfl)) (fun _ _ _ h => h) (Or.inl ⟨by rfl, ?_⟩) ?_ ?_; rotate_left; (· (intro w'; go_simp; with_reducible rfl))
            rotate_left; (· (simp only [Act.put, sA_, sZ_, sS_, i64_w, i32_w]; rfl))
            refine pu_ (i := 17) (N := some 30) (v := ?_) (a' := ?_) rfl rfl (any_of HT_.out (by kernel_rfl)) (fun _ _ _ h => h) (Or.inl ⟨by rfl, ?_⟩) ?_ ?_; rotate_left; (· (intro w'; go_simp; with_reducible rfl)); rotate_left; (· (simp only [Act.put, sA_, sZ_, sS_, i64_w, i32_w]; rfl))
            refine ta_ (i := 18) (N := some 31) (v := ?_) (a' := ?_) rfl rfl (take_ofW HT_.out HW_.out (by kernel_rfl)) (fun _ _ _ h => h) (Or.inl ⟨by rfl, ?_⟩) hHeld ?_ ?_
            rotate_left
            ·rintro w' ⟨s0, s1, s2, s3⟩
             go_simp
             with_reducible rfl
            rotate_left; (· (simp only [Act.put, sA_, sZ_, sS_, i64_w, i32_w]; rfl))
            refine on_ (i := 19) (N := some 32) rfl rfl (one_of HT_.out (by kernel_rfl)) (by decide) (fun K hK => ?_)
            refine goes_ Try.func91 (by kernel_rfl) rfl #[.agg #[.int .i64 ((rd_T104 l0_2 x8_1).f0.f0), .int .i64 ((rd_T104 l0_2 x8_1).f0.f1)]] (by rfl) rfl rfl (by (try simp only [List.map_toArray, List.map_cons, List.map_nil]); first | done | rfl | (simp only [List.length_drop, List.length_take]; rfl)) ?_
            with_reducible refine (impl_reqOk.calls ((rd_T104 l0_2 x8_1).f0.f0) ((rd_T104 l0_2 x8_1).f0.f1) true _ A40.out).mono ?_
            rintro e w52 ⟨rfl, hb⟩
            refine ⟨_, rfl, ?_⟩
            have n0_ := Aside0.mk (blk_below (g := gb177) (o := .cells #[.int .i64 a0_0, .slice A0_1 l0_1.length c0_1, .slice (some ad178) l0_2.length c0_2] 25 (0, 0)) (by (with_reducible repeat (first | refine blk_drewN ?_ _ | refine blk_drew ?_ | refine blk_alloc ?_ _)); exact BK177.out) hb)
            have n1_ := Aside0.mk (blk_below (g := gb179) (o := .cells #[.int .i64 ((rd_T104 l0_2 x8_1).f0.f0), .int .i64 ((rd_T104 l0_2 x8_1).f0.f1), .int .i64 ((rd_T104 l0_2 x8_1).f1), .int .i64 ((rd_T104 l0_2 x8_1).f2)] 104 (0, 0)) (by (with_reducible repeat (first | refine blk_drewN ?_ _ | refine blk_drew ?_ | refine blk_alloc ?_ _)); exact BK179.out) hb)
            have n2_ := Aside0.mk (below_step (by repeat (first | (with_reducible first | exact HB.out | apply below_alloc | apply pw_below_drewN | apply below_drew1 | refine below_set ?_ GE177.out | refine below_set ?_ GE179.out) | exact HB.out)) hb)
            clear BK177
            clear BK179
            clear HB
            have BK177 := n0_
            have BK179 := n1_
            have HB := n2_
            clear n0_ n1_ n2_
            (try clear hb)
            (try clear hb2)
            (try clear hk)
            (try clear hi)
            refine hK.out _ _ ⟨(blk_cell BK179.out 0).trans rfl, (blk_cell BK179.out 1).trans rfl, (blk_cell BK179.out 2).trans rfl, (blk_cell BK179.out 3).trans rfl⟩ (fun hHeld => ?_)
            clear hK K
            refine norm_ (a' := ?_) ?_ ?_
            rotate_left
            ·show Act.put _ (some 32) _ = _
             simp only [Act.put, sA_, sZ_, sS_, i64_w, i32_w]
             rfl
            refine pu_ (i := 20) (N := some 33) (v := ?_) (a' := ?_) rfl rfl (any_of HT_.out (by kernel_rfl)) (fun _ _ _ h => h) (Or.inl ⟨by rfl, ?_⟩) ?_ ?_; rotate_left; (· (intro w'; go_simp; with_reducible rfl)); rotate_left; (· (simp only [Act.put, sA_, sZ_, sS_, i64_w, i32_w]; rfl))
            refine pu_ (i := 21) (N := some 34) (v := ?_) (a' := ?_) rfl rfl (any_of HT_.out (by kernel_rfl)) (fun _ _ _ h => h) (Or.inl ⟨by rfl, ?_⟩) ?_ ?_; rotate_left; (· (intro w'; go_simp; with_reducible rfl))
            rotate_left; (· (simp only [Act.put, sA_, sZ_, sS_, i64_w, i32_w]; rfl))
            refine pu_ (i := 22) (N := some 35) (v := ?_) (a' := ?_) rfl rfl (any_of HT_.out (by kernel_rfl)) (fun _ _ _ h => h) (Or.inl ⟨by rfl, ?_⟩) ?_ ?_; rotate_left; (· (intro w'; go_simp; with_reducible rfl)); rotate_left; (· (simp only [Act.put, sA_, sZ_, sS_, i64_w, i32_w]; rfl))
            refine pu_ (i := 23) (N := some 36) (v := ?_) (a' := ?_) rfl rfl (any_of HT_.out (by kernel_rfl)) (fun _ _ _ h => h) (Or.inl ⟨by rfl, ?_⟩) ?_ ?_; rotate_left; (· (intro w'; go_simp; with_reducible rfl))
            rotate_left; (· (simp only [Act.put, sA_, sZ_, sS_, i64_w, i32_w]; rfl))
            refine ta_ (i := 24) (N := some 37) (v := ?_) (a' := ?_) rfl rfl (take_ofW HT_.out HW_.out (by kernel_rfl)) (fun _ _ _ h => h) (Or.inl ⟨by rfl, ?_⟩) hHeld ?_ ?_
            rotate_left
            ·rintro w' ⟨s0, s1, s2, s3⟩
             go_simp
             with_reducible rfl
            rotate_left; (· (simp only [Act.put, sA_, sZ_, sS_, i64_w, i32_w]; rfl))
            refine on_ (i := 25) (N := some 38) rfl rfl (one_of HT_.out (by kernel_rfl)) (by decide) (fun K hK => ?_)
            refine goes_ Try.func78 (by kernel_rfl) rfl #[.int .i64 ((rd_T104 l0_2 x8_1).f1), .int .i64 0, .int .i64 2] (by rfl) rfl rfl (by (try simp only [List.map_toArray, List.map_cons, List.map_nil]); first | done | rfl | (simp only [List.length_drop, List.length_take]; rfl)) ?_
            with_reducible refine (impl_in.calls ((rd_T104 l0_2 x8_1).f1) 0 2 true _ A42.out).mono ?_
            rintro e w' ⟨rfl, ⟨nd, rfl⟩⟩
            refine ⟨_, rfl, ?_⟩
            refine hK.out _ _ ⟨(blk_cell BK179.out 0).trans rfl, (blk_cell BK179.out 1).trans rfl, (blk_cell BK179.out 2).trans rfl, (blk_cell BK179.out 3).trans rfl⟩ (fun hHeld => ?_)
            clear hK K
            refine norm_ (a' := ?_) ?_ ?_
            rotate_left
            ·show Act.put _ (some 38) _ = _
             simp only [Act.put, sA_, sZ_, sS_, i64_w, i32_w]
             rfl
            refine pu_ (i := 26) (N := some 39) (v := ?_) (a' := ?_) rfl rfl (any_of HT_.out (by kernel_rfl)) (fun _ _ _ h => h) (Or.inl ⟨by rfl, ?_⟩) ?_ ?_; rotate_left; (· (intro w'; go_simp; with_reducible rfl)); rotate_left; (· (simp only [Act.put, sA_, sZ_, sS_, i64_w, i32_w]; rfl))
            refine pu_ (i := 27) (N := some 40) (v := ?_) (a' := ?_) rfl rfl (any_of HT_.out (by kernel_rfl)) (fun _ _ _ h => h) (Or.inl ⟨by rfl, ?_⟩) ?_ ?_; rotate_left; (· (intro w'; go_simp; with_reducible rfl))
            rotate_left; (· (simp only [Act.put, sA_, sZ_, sS_, i64_w, i32_w]; rfl))
            refine pu_ (i := 28) (N := some 41) (v := ?_) (a' := ?_) rfl rfl (any_of HT_.out (by kernel_rfl)) (fun _ _ _ h => h) (Or.inl ⟨by rfl, ?_⟩) ?_ ?_; rotate_left; (· (intro w'; go_simp; with_reducible rfl)); rotate_left; (· (simp only [Act.put, sA_, sZ_, sS_, i64_w, i32_w]; rfl))
            refine pu_ (i := 29) (N := some 42) (v := ?_) (a' := ?_) rfl rfl (any_of HT_.out (by kernel_rfl)) (fun _ _ _ h => h) (Or.inl ⟨by rfl, ?_⟩) ?_ ?_; rotate_left; (· (intro w'; go_simp; with_reducible rfl))
            rotate_left; (· (simp only [Act.put, sA_, sZ_, sS_, i64_w, i32_w]; rfl))
            refine ta_ (i := 30) (N := some 43) (v := ?_) (a' := ?_) rfl rfl (take_ofW HT_.out HW_.out (by kernel_rfl)) (fun _ _ _ h => h) (Or.inl ⟨by rfl, ?_⟩) hHeld ?_ ?_
            rotate_left
            ·rintro w' ⟨s0, s1, s2, s3⟩
             go_simp
             with_reducible rfl
            rotate_left; (· (simp only [Act.put, sA_, sZ_, sS_, i64_w, i32_w]; rfl))
            refine on_ (i := 31) (N := some 44) rfl rfl (one_of HT_.out (by kernel_rfl)) (by decide) (fun K hK => ?_)
            refine goes_ Try.func78 (by kernel_rfl) rfl #[.int .i64 ((rd_T104 l0_2 x8_1).f2), .int .i64 (-1000000), .int .i64 1000000] (by rfl) rfl rfl (by (try simp only [List.map_toArray, List.map_cons, List.map_nil]); first | done | rfl | (simp only [List.length_drop, List.length_take]; rfl)) ?_
            with_reducible refine (impl_in.calls ((rd_T104 l0_2 x8_1).f2) (-1000000) 1000000 true _ A44.out).mono ?_
            rintro e w' ⟨rfl, ⟨nd, rfl⟩⟩
            refine ⟨_, rfl, ?_⟩
            refine hK.out _ _ ⟨(blk_cell BK179.out 0).trans rfl, (blk_cell BK179.out 1).trans rfl, (blk_cell BK179.out 2).trans rfl, (blk_cell BK179.out 3).trans rfl⟩ (fun hHeld => ?_)
            clear hK K
            refine norm_ (a' := ?_) ?_ ?_
            rotate_left
            ·show Act.put _ (some 44) _ = _
             simp only [Act.put, sA_, sZ_, sS_, i64_w, i32_w]
             rfl
            refine pu_ (i := 32) (N := some 45) (v := ?_) (a' := ?_) rfl rfl (any_of HT_.out (by kernel_rfl)) (fun _ _ _ h => h) (Or.inl ⟨by rfl, ?_⟩) ?_ ?_; rotate_left; (· (intro w'; go_simp; with_reducible rfl)); rotate_left; (· (simp only [Act.put, sA_, sZ_, sS_, i64_w, i32_w]; rfl))
            refine pu_ (i := 33) (N := some 46) (v := ?_) (a' := ?_) rfl rfl (any_of HT_.out (by kernel_rfl)) (fun _ _ _ h => h) (Or.inl ⟨by rfl, ?_⟩) ?_ ?_; rotate_left; (· (intro w'; go_simp; with_reducible rfl))
            rotate_left; (· (simp only [Act.put, sA_, sZ_, sS_, i64_w, i32_w]; rfl))
            refine pu_ (i := 34) (N := some 47) (v := ?_) (a' := ?_) rfl rfl (any_of HT_.out (by kernel_rfl)) (fun _ _ _ h => h) (Or.inl ⟨by rfl, ?_⟩) ?_ ?_; rotate_left; (· (intro w'; go_simp; with_reducible rfl)); rotate_left; (· (simp only [Act.put, sA_, sZ_, sS_, i64_w, i32_w]; rfl))
            refine pu_ (i := 35) (N := some 48) (v := ?_) (a' := ?_) rfl rfl (any_of HT_.out (by kernel_rfl)) (fun _ _ _ h => h) (Or.inl ⟨by rfl, ?_⟩) ?_ ?_; rotate_left; (· (intro w'; go_simp; with_reducible rfl))
            rotate_left; (· (simp only [Act.put, sA_, sZ_, sS_, i64_w, i32_w]; rfl))
            refine ta_ (i := 36) (N := some 49) (v := ?_) (a' := ?_) rfl rfl (take_ofW HT_.out HW_.out (by kernel_rfl)) (fun _ _ _ h => h) (Or.inl ⟨by rfl, ?_⟩) hHeld ?_ ?_
            rotate_left
            ·rintro w' ⟨s0, s1, s2, s3⟩
             go_simp
             with_reducible rfl
            rotate_left; (· (simp only [Act.put, sA_, sZ_, sS_, i64_w, i32_w]; rfl))
            refine pu_ (i := 37) (N := some 50) (v := ?_) (a' := ?_) rfl rfl (any_of HT_.out (by kernel_rfl)) (fun _ _ _ h => h) (Or.inl ⟨by rfl, ?_⟩) ?_ ?_; rotate_left; (· (intro w'; go_simp; with_reducible rfl)); rotate_left; (· (simp only [Act.put, sA_, sZ_, sS_, i64_w, i32_w]; rfl))
            refine pu_ (i := 38) (N := some 51) (v := ?_) (a' := ?_) rfl rfl (any_of HT_.out (by kernel_rfl)) (fun _ _ _ h => h) (Or.inl ⟨by rfl, ?_⟩) ?_ ?_; rotate_left; (· (intro w'; go_simp; with_reducible rfl))
            rotate_left; (· (simp only [Act.put, sA_, sZ_, sS_, i64_w, i32_w]; rfl))
            refine pu_ (i := 39) (N := some 52) (v := ?_) (a' := ?_) rfl rfl (any_of HT_.out (by kernel_rfl)) (fun _ _ _ h => h) (Or.inl ⟨by rfl, ?_⟩) ?_ ?_; rotate_left; (· (intro w'; go_simp; with_reducible rfl)); rotate_left; (· (simp only [Act.put, sA_, sZ_, sS_, i64_w, i32_w]; rfl))
            refine ta_ (i := 40) (N := some 53) (v := ?_) (a' := ?_) rfl rfl (take_ofW HT_.out HW_.out (by kernel_rfl)) (fun _ _ _ h => h) (Or.inl ⟨by rfl, ?_⟩) hHeld ?_ ?_
            rotate_left
            ·rintro w' ⟨s0, s1, s2, s3⟩
             go_simp
             with_reducible rfl
            rotate_left; (· (simp only [Act.put, sA_, sZ_, sS_, i64_w, i32_w]; rfl))
            refine pu_ (i := 41) (N := some 54) (v := ?_) (a' := ?_) rfl rfl (any_of HT_.out (by kernel_rfl)) (fun _ _ _ h => h) (Or.inl ⟨by rfl, ?_⟩) ?_ ?_; rotate_left; (· (intro w'; go_simp; with_reducible rfl)); rotate_left; (· (simp only [Act.put, sA_, sZ_, sS_, i64_w, i32_w]; rfl))
            refine pu_ (i := 42) (N := some 55) (v := ?_) (a' := ?_) rfl rfl (any_of HT_.out (by kernel_rfl)) (fun _ _ _ h => h) (Or.inl ⟨by rfl, ?_⟩) ?_ ?_; rotate_left; (· (intro w'; go_simp; with_reducible rfl))
            rotate_left; (· (simp only [Act.put, sA_, sZ_, sS_, i64_w, i32_w]; rfl))
            refine pu_ (i := 43) (N := some 56) (v := ?_) (a' := ?_) rfl rfl (any_of HT_.out (by kernel_rfl)) (fun _ _ _ h => h) (Or.inl ⟨by rfl, ?_⟩) ?_ ?_; rotate_left; (· (intro w'; go_simp; with_reducible rfl)); rotate_left; (· (simp only [Act.put, sA_, sZ_, sS_, i64_w, i32_w]; rfl))
            refine done_ (done_of HT_.out (by kernel_rfl)) ?_
            try go_wp2
            go_meet
            case rel => exact ⟨_, ((((rd_T104 l0_2 x8_1).f2) != 0)), (by first | rfl | (simp; done) | (simp [*]; done)), H', ⟨by have := HK1.out; first | omega | exact Nat.le_refl _⟩, ⟨by (with_reducible repeat (first | refine blk_drewN ?_ _ | refine blk_drew ?_ | refine blk_alloc ?_ _)); exact BK177.out⟩, ⟨by (with_reducible repeat (first | refine blk_drewN ?_ _ | refine blk_drew ?_ | refine blk_alloc ?_ _)); exact BK179.out⟩, ⟨by repeat (first | (with_reducible first | exact HB.out | apply below_alloc | apply pw_below_drewN | apply below_drew1 | refine below_set ?_ GE177.out | refine below_set ?_ GE179.out) | exact HB.out)⟩⟩
          ·replace c45 := Bool.eq_false_iff.mpr c45
           subst c45
           have H1 : (impl_CertOk.j1 k1 l0_2 (l0_2.length : Int) x8_1 true a0_0 l0_1 l0_2) = some r := by rw [if_neg (show ¬ (false = true) by decide)] at H; exact H
           clear H
           have H := H1
           clear H1
           have H' := Aside0.mk H
           clear H
           try go_wp2
           have n0_ : Aside0 (((((w8.setCell ⟨gb179, 0, none⟩ (.int .i64 ((rd_T104 l0_2 x8_1).f0.f0))).setCell ⟨gb179, 1, none⟩ (.int .i64 ((rd_T104 l0_2 x8_1).f0.f1))).setCell ⟨gb179, 2, none⟩ (.int .i64 ((rd_T104 l0_2 x8_1).f1))).setCell ⟨gb179, 3, none⟩ (.int .i64 ((rd_T104 l0_2 x8_1).f2))).heap[gb177]? = some (.cells #[.int .i64 a0_0, .slice A0_1 l0_1.length c0_1, .slice (some ad178) l0_2.length c0_2] 25 (0, 0))) := ⟨by (with_reducible repeat (first | refine blk_drewN ?_ _ | refine blk_drew ?_ | refine blk_alloc ?_ _)); refine blk_far ?_ NB177_179.out _; (with_reducible repeat (first | refine blk_drewN ?_ _ | refine blk_drew ?_ | refine blk_alloc ?_ _)); refine blk_far ?_ NB177_179.out _; (with_reducible repeat (first | refine blk_drewN ?_ _ | refine blk_drew ?_ | refine blk_alloc ?_ _)); refine blk_far ?_ NB177_179.out _; (with_reducible repeat (first | refine blk_drewN ?_ _ | refine blk_drew ?_ | refine blk_alloc ?_ _)); refine blk_far ?_ NB177_179.out _; (with_reducible repeat (first | refine blk_drewN ?_ _ | refine blk_drew ?_ | refine blk_alloc ?_ _)); exact BK177.out⟩
           have n1_ : Aside0 (((((w8.setCell ⟨gb179, 0, none⟩ (.int .i64 ((rd_T104 l0_2 x8_1).f0.f0))).setCell ⟨gb179, 1, none⟩ (.int .i64 ((rd_T104 l0_2 x8_1).f0.f1))).setCell ⟨gb179, 2, none⟩ (.int .i64 ((rd_T104 l0_2 x8_1).f1))).setCell ⟨gb179, 3, none⟩ (.int .i64 ((rd_T104 l0_2 x8_1).f2))).heap[gb179]? = some (.cells #[.int .i64 ((rd_T104 l0_2 x8_1).f0.f0), .int .i64 ((rd_T104 l0_2 x8_1).f0.f1), .int .i64 ((rd_T104 l0_2 x8_1).f1), .int .i64 ((rd_T104 l0_2 x8_1).f2)] 104 (0, 0))) := ⟨by (with_reducible repeat (first | refine blk_drewN ?_ _ | refine blk_drew ?_ | refine blk_alloc ?_ _)); refine blk_put (cs := #[.int .i64 ((rd_T104 l0_2 x8_1).f0.f0), .int .i64 ((rd_T104 l0_2 x8_1).f0.f1), .int .i64 ((rd_T104 l0_2 x8_1).f1), .int .i64 0]) ?_ 3 _ rfl; (with_reducible repeat (first | refine blk_drewN ?_ _ | refine blk_drew ?_ | refine blk_alloc ?_ _)); refine blk_put (cs := #[.int .i64 ((rd_T104 l0_2 x8_1).f0.f0), .int .i64 ((rd_T104 l0_2 x8_1).f0.f1), .int .i64 0, .int .i64 0]) ?_ 2 _ rfl; (with_reducible repeat (first | refine blk_drewN ?_ _ | refine blk_drew ?_ | refine blk_alloc ?_ _)); refine blk_put (cs := #[.int .i64 ((rd_T104 l0_2 x8_1).f0.f0), .int .i64 0, .int .i64 0, .int .i64 0]) ?_ 1 _ rfl; (with_reducible repeat (first | refine blk_drewN ?_ _ | refine blk_drew ?_ | refine blk_alloc ?_ _)); refine blk_put (cs := #[.int .i64 0, .int .i64 0, .int .i64 0, .int .i64 0]) ?_ 0 _ rfl; (with_reducible repeat (first | refine blk_drewN ?_ _ | refine blk_drew ?_ | refine blk_alloc ?_ _)); exact BK179.out⟩
           have n2_ : Aside0 (Below w.heap.size w ((((w8.setCell ⟨gb179, 0, none⟩ (.int .i64 ((rd_T104 l0_2 x8_1).f0.f0))).setCell ⟨gb179, 1, none⟩ (.int .i64 ((rd_T104 l0_2 x8_1).f0.f1))).setCell ⟨gb179, 2, none⟩ (.int .i64 ((rd_T104 l0_2 x8_1).f1))).setCell ⟨gb179, 3, none⟩ (.int .i64 ((rd_T104 l0_2 x8_1).f2)))) := ⟨by repeat (first | (with_reducible first | exact HB.out | apply below_alloc | apply pw_below_drewN | apply below_drew1 | refine below_set ?_ GE177.out | refine below_set ?_ GE179.out) | exact HB.out)⟩
           (try clear BK177)
           (try clear BK179)
           (try clear HB)
           generalize ((((w8.setCell ⟨gb179, 0, none⟩ (.int .i64 ((rd_T104 l0_2 x8_1).f0.f0))).setCell ⟨gb179, 1, none⟩ (.int .i64 ((rd_T104 l0_2 x8_1).f0.f1))).setCell ⟨gb179, 2, none⟩ (.int .i64 ((rd_T104 l0_2 x8_1).f1))).setCell ⟨gb179, 3, none⟩ (.int .i64 ((rd_T104 l0_2 x8_1).f2))) = w53 at n0_ n1_ n2_ ⊢
           have BK177 := n0_
           have BK179 := n1_
           have HB := n2_
           clear n0_ n1_ n2_
           have n0_ := Aside0.mk (blk_drew BK177.out)
           have n1_ := Aside0.mk (blk_drew BK179.out)
           have n2_ := Aside0.mk (below_drew1 HB.out)
           clear BK177
           clear BK179
           clear HB
           have BK177 := n0_
           have BK179 := n1_
           have HB := n2_
           clear n0_ n1_ n2_
           refine start_ (n := 44) (S := fun w' => w'.cell? ⟨gb179, 0, none⟩ = some (.int .i64 ((rd_T104 l0_2 x8_1).f0.f0)) ∧ w'.cell? ⟨gb179, 1, none⟩ = some (.int .i64 ((rd_T104 l0_2 x8_1).f0.f1)) ∧ w'.cell? ⟨gb179, 2, none⟩ = some (.int .i64 ((rd_T104 l0_2 x8_1).f1)) ∧ w'.cell? ⟨gb179, 3, none⟩ = some (.int .i64 ((rd_T104 l0_2 x8_1).f2))) (ds := []) #[false, false, false, false, false, false, false, false, false, false, false, false, false, false, false, false, false, false, false, false, false, false, false, false, false, false, false, false, false, false, false, false, false, false, false, false, false, false, false, false, false, false, false, false] (by kernel_rfl) rfl rfl ⟨(blk_cell BK179.out 0).trans rfl, (blk_cell BK179.out 1).trans rfl, (blk_cell BK179.out 2).trans rfl, (blk_cell BK179.out 3).trans rfl⟩ (fun hHeld => ?_); refine with_tabW impl_CertOk.tab4 impl_CertOk.bits4 (fun HT_ HW_ => ?_)
           generalize w53.drew = w54 at BK177 BK179 HB hHeld ⊢
           refine pu_ (i := 0) (N := some 13) (v := ?_) (a' := ?_) rfl rfl (any_of HT_.out (by kernel_rfl)) (fun _ _ _ h => h) (Or.inl ⟨by rfl, ?_⟩) ?_ ?_; rotate_left; (· (intro w'; go_simp; with_reducible rfl)); rotate_left; (· (simp only [Act.put, sA_, sZ_, sS_, i64_w, i32_w]; rfl))
           refine pu_ (i := 1) (N := some 14) (v := ?_) (a' := ?_) rfl rfl (any_of HT_.out (by kernel_rfl)) (fun _ _ _ h => h) (Or.inl ⟨by rfl, ?_⟩) ?_ ?_; rotate_left; (· (intro w'; go_simp; with_reducible rfl))
           rotate_left; (· (simp only [Act.put, sA_, sZ_, sS_, i64_w, i32_w]; rfl))
           refine pu_ (i := 2) (N := some 15) (v := ?_) (a' := ?_) rfl rfl (any_of HT_.out (by kernel_rfl)) (fun _ _ _ h => h) (Or.inl ⟨by rfl, ?_⟩) ?_ ?_; rotate_left; (· (intro w'; go_simp; with_reducible rfl)); rotate_left; (· (simp only [Act.put, sA_, sZ_, sS_, i64_w, i32_w]; rfl))
           refine pu_ (i := 3) (N := some 16) (v := undef) (a' := ?_) rfl rfl (any_of HT_.out (by kernel_rfl)) (fun _ _ _ h => h) (Or.inr ⟨by rfl, rfl⟩) ?_ ?_; rotate_left; (· (simp only [Act.put, sA_, sZ_, sS_, i64_w, i32_w]; rfl))
           refine pu_ (i := 4) (N := some 17) (v := undef) (a' := ?_) rfl rfl (any_of HT_.out (by kernel_rfl)) (fun _ _ _ h => h) (Or.inr ⟨by rfl, rfl⟩) ?_ ?_
           rotate_left; (· (simp only [Act.put, sA_, sZ_, sS_, i64_w, i32_w]; rfl))
           refine pu_ (i := 5) (N := some 18) (v := undef) (a' := ?_) rfl rfl (any_of HT_.out (by kernel_rfl)) (fun _ _ _ h => h) (Or.inr ⟨by rfl, rfl⟩) ?_ ?_; rotate_left; (· (simp only [Act.put, sA_, sZ_, sS_, i64_w, i32_w]; rfl))
           refine pu_ (i := 6) (N := some 19) (v := undef) (a' := ?_) rfl rfl (any_of HT_.out (by kernel_rfl)) (fun _ _ _ h => h) (Or.inr ⟨by rfl, rfl⟩) ?_ ?_
           rotate_left; (· (simp only [Act.put, sA_, sZ_, sS_, i64_w, i32_w]; rfl))
           refine pu_ (i := 7) (N := some 20) (v := undef) (a' := ?_) rfl rfl (any_of HT_.out (by kernel_rfl)) (fun _ _ _ h => h) (Or.inr ⟨by rfl, rfl⟩) ?_ ?_; rotate_left; (· (simp only [Act.put, sA_, sZ_, sS_, i64_w, i32_w]; rfl))
           refine pu_ (i := 8) (N := some 21) (v := undef) (a' := ?_) rfl rfl (any_of HT_.out (by kernel_rfl)) (fun _ _ _ h => h) (Or.inr ⟨by rfl, rfl⟩) ?_ ?_
           rotate_left; (· (simp only [Act.put, sA_, sZ_, sS_, i64_w, i32_w]; rfl))
           refine pu_ (i := 9) (N := some 22) (v := undef) (a' := ?_) rfl rfl (any_of HT_.out (by kernel_rfl)) (fun _ _ _ h => h) (Or.inr ⟨by rfl, rfl⟩) ?_ ?_; rotate_left; (· (simp only [Act.put, sA_, sZ_, sS_, i64_w, i32_w]; rfl))
           refine pu_ (i := 10) (N := some 23) (v := undef) (a' := ?_) rfl rfl (any_of HT_.out (by kernel_rfl)) (fun _ _ _ h => h) (Or.inr ⟨by rfl, rfl⟩) ?_ ?_
           rotate_left; (· (simp only [Act.put, sA_, sZ_, sS_, i64_w, i32_w]; rfl))
           refine pu_ (i := 11) (N := some 24) (v := undef) (a' := ?_) rfl rfl (any_of HT_.out (by kernel_rfl)) (fun _ _ _ h => h) (Or.inr ⟨by rfl, rfl⟩) ?_ ?_; rotate_left; (· (simp only [Act.put, sA_, sZ_, sS_, i64_w, i32_w]; rfl))
           refine pu_ (i := 12) (N := some 25) (v := undef) (a' := ?_) rfl rfl (any_of HT_.out (by kernel_rfl)) (fun _ _ _ h => h) (Or.inr ⟨by rfl, rfl⟩) ?_ ?_
           rotate_left; (· (simp only [Act.put, sA_, sZ_, sS_, i64_w, i32_w]; rfl))
           refine pu_ (i := 13) (N := some 26) (v := undef) (a' := ?_) rfl rfl (any_of HT_.out (by kernel_rfl)) (fun _ _ _ h => h) (Or.inr ⟨by rfl, rfl⟩) ?_ ?_; rotate_left; (· (simp only [Act.put, sA_, sZ_, sS_, i64_w, i32_w]; rfl))
           refine pu_ (i := 14) (N := some 27) (v := undef) (a' := ?_) rfl rfl (any_of HT_.out (by kernel_rfl)) (fun _ _ _ h => h) (Or.inr ⟨by rfl, rfl⟩) ?_ ?_
           rotate_left; (· (simp only [Act.put, sA_, sZ_, sS_, i64_w, i32_w]; rfl))
           refine pu_ (i := 15) (N := some 28) (v := ?_) (a' := ?_) rfl rfl (any_of HT_.out (by kernel_rfl)) (fun _ _ _ h => h) (Or.inl ⟨by rfl, ?_⟩) ?_ ?_; rotate_left; (· (intro w'; go_simp; with_reducible rfl)); rotate_left; (· (simp only [Act.put, sA_, sZ_, sS_, i64_w, i32_w]; rfl))
           refine pu_ (i := 16) (N := some 29) (v := ?_) (a' := ?_) rfl rfl (any_of HT_.out (by kernel_rfl)) (fun _ _ _ h => h) (Or.inl ⟨by rfl, ?_⟩) ?_ ?_; rotate_left; (· (intro w'; go_simp; with_reducible rfl))
           rotate_left; (· (simp only [Act.put, sA_, sZ_, sS_, i64_w, i32_w]; rfl))
           refine pu_ (i := 17) (N := some 30) (v := ?_) (a' := ?_) rfl rfl (any_of HT_.out (by kernel_rfl)) (fun _ _ _ h => h) (Or.inl ⟨by rfl, ?_⟩) ?_ ?_; rotate_left; (· (intro w'; go_simp; with_reducible rfl)); rotate_left; (· (simp only [Act.put, sA_, sZ_, sS_, i64_w, i32_w]; rfl))
           refine ta_ (i := 18) (N := some 31) (v := ?_) (a' := ?_) rfl rfl (take_ofW HT_.out HW_.out (by kernel_rfl)) (fun _ _ _ h => h) (Or.inl ⟨by rfl, ?_⟩) hHeld ?_ ?_
           rotate_left
           ·rintro w' ⟨s0, s1, s2, s3⟩
            go_simp
            with_reducible rfl
           rotate_left; (· (simp only [Act.put, sA_, sZ_, sS_, i64_w, i32_w]; rfl))
           refine on_ (i := 19) (N := some 32) rfl rfl (one_of HT_.out (by kernel_rfl)) (by decide) (fun K hK => ?_)
           refine goes_ Try.func91 (by kernel_rfl) rfl #[.agg #[.int .i64 ((rd_T104 l0_2 x8_1).f0.f0), .int .i64 ((rd_T104 l0_2 x8_1).f0.f1)]] (by rfl) rfl rfl (by (try simp only [List.map_toArray, List.map_cons, List.map_nil]); first | done | rfl | (simp only [List.length_drop, List.length_take]; rfl)) ?_
           with_reducible refine (impl_reqOk.calls ((rd_T104 l0_2 x8_1).f0.f0) ((rd_T104 l0_2 x8_1).f0.f1) true _ A40.out).mono ?_
           rintro e w55 ⟨rfl, hb⟩
           refine ⟨_, rfl, ?_⟩
           have n0_ := Aside0.mk (blk_below (g := gb177) (o := .cells #[.int .i64 a0_0, .slice A0_1 l0_1.length c0_1, .slice (some ad178) l0_2.length c0_2] 25 (0, 0)) (by (with_reducible repeat (first | refine blk_drewN ?_ _ | refine blk_drew ?_ | refine blk_alloc ?_ _)); exact BK177.out) hb)
           have n1_ := Aside0.mk (blk_below (g := gb179) (o := .cells #[.int .i64 ((rd_T104 l0_2 x8_1).f0.f0), .int .i64 ((rd_T104 l0_2 x8_1).f0.f1), .int .i64 ((rd_T104 l0_2 x8_1).f1), .int .i64 ((rd_T104 l0_2 x8_1).f2)] 104 (0, 0)) (by (with_reducible repeat (first | refine blk_drewN ?_ _ | refine blk_drew ?_ | refine blk_alloc ?_ _)); exact BK179.out) hb)
           have n2_ := Aside0.mk (below_step (by repeat (first | (with_reducible first | exact HB.out | apply below_alloc | apply pw_below_drewN | apply below_drew1 | refine below_set ?_ GE177.out | refine below_set ?_ GE179.out) | exact HB.out)) hb)
           clear BK177
           clear BK179
           clear HB
           have BK177 := n0_
           have BK179 := n1_
           have HB := n2_
           clear n0_ n1_ n2_
           (try clear hb)
           (try clear hb2)
           (try clear hk)
           (try clear hi)
           refine hK.out _ _ ⟨(blk_cell BK179.out 0).trans rfl, (blk_cell BK179.out 1).trans rfl, (blk_cell BK179.out 2).trans rfl, (blk_cell BK179.out 3).trans rfl⟩ (fun hHeld => ?_)
           clear hK K
           refine norm_ (a' := ?_) ?_ ?_
           rotate_left
           ·show Act.put _ (some 32) _ = _
            simp only [Act.put, sA_, sZ_, sS_, i64_w, i32_w]
            rfl
           refine pu_ (i := 20) (N := some 33) (v := ?_) (a' := ?_) rfl rfl (any_of HT_.out (by kernel_rfl)) (fun _ _ _ h => h) (Or.inl ⟨by rfl, ?_⟩) ?_ ?_; rotate_left; (· (intro w'; go_simp; with_reducible rfl)); rotate_left; (· (simp only [Act.put, sA_, sZ_, sS_, i64_w, i32_w]; rfl))
           refine pu_ (i := 21) (N := some 34) (v := ?_) (a' := ?_) rfl rfl (any_of HT_.out (by kernel_rfl)) (fun _ _ _ h => h) (Or.inl ⟨by rfl, ?_⟩) ?_ ?_; rotate_left; (· (intro w'; go_simp; with_reducible rfl))
           rotate_left; (· (simp only [Act.put, sA_, sZ_, sS_, i64_w, i32_w]; rfl))
           refine pu_ (i := 22) (N := some 35) (v := ?_) (a' := ?_) rfl rfl (any_of HT_.out (by kernel_rfl)) (fun _ _ _ h => h) (Or.inl ⟨by rfl, ?_⟩) ?_ ?_; rotate_left; (· (intro w'; go_simp; with_reducible rfl)); rotate_left; (· (simp only [Act.put, sA_, sZ_, sS_, i64_w, i32_w]; rfl))
           refine pu_ (i := 23) (N := some 36) (v := ?_) (a' := ?_) rfl rfl (any_of HT_.out (by kernel_rfl)) (fun _ _ _ h => h) (Or.inl ⟨by rfl, ?_⟩) ?_ ?_; rotate_left; (· (intro w'; go_simp; with_reducible rfl))
           rotate_left; (· (simp only [Act.put, sA_, sZ_, sS_, i64_w, i32_w]; rfl))
           refine ta_ (i := 24) (N := some 37) (v := ?_) (a' := ?_) rfl rfl (take_ofW HT_.out HW_.out (by kernel_rfl)) (fun _ _ _ h => h) (Or.inl ⟨by rfl, ?_⟩) hHeld ?_ ?_
           rotate_left
           ·rintro w' ⟨s0, s1, s2, s3⟩
            go_simp
            with_reducible rfl
           rotate_left; (· (simp only [Act.put, sA_, sZ_, sS_, i64_w, i32_w]; rfl))
           refine on_ (i := 25) (N := some 38) rfl rfl (one_of HT_.out (by kernel_rfl)) (by decide) (fun K hK => ?_)
           refine goes_ Try.func78 (by kernel_rfl) rfl #[.int .i64 ((rd_T104 l0_2 x8_1).f1), .int .i64 0, .int .i64 2] (by rfl) rfl rfl (by (try simp only [List.map_toArray, List.map_cons, List.map_nil]); first | done | rfl | (simp only [List.length_drop, List.length_take]; rfl)) ?_
           with_reducible refine (impl_in.calls ((rd_T104 l0_2 x8_1).f1) 0 2 true _ A42.out).mono ?_
           rintro e w' ⟨rfl, ⟨nd, rfl⟩⟩
           refine ⟨_, rfl, ?_⟩
           refine hK.out _ _ ⟨(blk_cell BK179.out 0).trans rfl, (blk_cell BK179.out 1).trans rfl, (blk_cell BK179.out 2).trans rfl, (blk_cell BK179.out 3).trans rfl⟩ (fun hHeld => ?_)
           clear hK K
           refine norm_ (a' := ?_) ?_ ?_
           rotate_left
           ·show Act.put _ (some 38) _ = _
            simp only [Act.put, sA_, sZ_, sS_, i64_w, i32_w]
            rfl
           refine pu_ (i := 26) (N := some 39) (v := ?_) (a' := ?_) rfl rfl (any_of HT_.out (by kernel_rfl)) (fun _ _ _ h => h) (Or.inl ⟨by rfl, ?_⟩) ?_ ?_; rotate_left; (· (intro w'; go_simp; with_reducible rfl)); rotate_left; (· (simp only [Act.put, sA_, sZ_, sS_, i64_w, i32_w]; rfl))
           refine pu_ (i := 27) (N := some 40) (v := ?_) (a' := ?_) rfl rfl (any_of HT_.out (by kernel_rfl)) (fun _ _ _ h => h) (Or.inl ⟨by rfl, ?_⟩) ?_ ?_; rotate_left; (· (intro w'; go_simp; with_reducible rfl))
           rotate_left; (· (simp only [Act.put, sA_, sZ_, sS_, i64_w, i32_w]; rfl))
           refine pu_ (i := 28) (N := some 41) (v := ?_) (a' := ?_) rfl rfl (any_of HT_.out (by kernel_rfl)) (fun _ _ _ h => h) (Or.inl ⟨by rfl, ?_⟩) ?_ ?_; rotate_left; (· (intro w'; go_simp; with_reducible rfl)); rotate_left; (· (simp only [Act.put, sA_, sZ_, sS_, i64_w, i32_w]; rfl))
           refine pu_ (i := 29) (N := some 42) (v := ?_) (a' := ?_) rfl rfl (any_of HT_.out (by kernel_rfl)) (fun _ _ _ h => h) (Or.inl ⟨by rfl, ?_⟩) ?_ ?_; rotate_left; (· (intro w'; go_simp; with_reducible rfl))
           rotate_left; (· (simp only [Act.put, sA_, sZ_, sS_, i64_w, i32_w]; rfl))
           refine ta_ (i := 30) (N := some 43) (v := ?_) (a' := ?_) rfl rfl (take_ofW HT_.out HW_.out (by kernel_rfl)) (fun _ _ _ h => h) (Or.inl ⟨by rfl, ?_⟩) hHeld ?_ ?_
           rotate_left
           ·rintro w' ⟨s0, s1, s2, s3⟩
            go_simp
            with_reducible rfl
           rotate_left; (· (simp only [Act.put, sA_, sZ_, sS_, i64_w, i32_w]; rfl))
           refine on_ (i := 31) (N := some 44) rfl rfl (one_of HT_.out (by kernel_rfl)) (by decide) (fun K hK => ?_)
           refine goes_ Try.func78 (by kernel_rfl) rfl #[.int .i64 ((rd_T104 l0_2 x8_1).f2), .int .i64 (-1000000), .int .i64 1000000] (by rfl) rfl rfl (by (try simp only [List.map_toArray, List.map_cons, List.map_nil]); first | done | rfl | (simp only [List.length_drop, List.length_take]; rfl)) ?_
           with_reducible refine (impl_in.calls ((rd_T104 l0_2 x8_1).f2) (-1000000) 1000000 false _ A44.out).mono ?_
           rintro e w' ⟨rfl, ⟨nd, rfl⟩⟩
           refine ⟨_, rfl, ?_⟩
           refine hK.out _ _ ⟨(blk_cell BK179.out 0).trans rfl, (blk_cell BK179.out 1).trans rfl, (blk_cell BK179.out 2).trans rfl, (blk_cell BK179.out 3).trans rfl⟩ (fun hHeld => ?_)
           clear hK K
           refine norm_ (a' := ?_) ?_ ?_
           rotate_left
           ·show Act.put _ (some 44) _ = _
            simp only [Act.put, sA_, sZ_, sS_, i64_w, i32_w]
            rfl
           refine pu_ (i := 32) (N := some 45) (v := ?_) (a' := ?_) rfl rfl (any_of HT_.out (by kernel_rfl)) (fun _ _ _ h => h) (Or.inl ⟨by rfl, ?_⟩) ?_ ?_; rotate_left; (· (intro w'; go_simp; with_reducible rfl)); rotate_left; (· (simp only [Act.put, sA_, sZ_, sS_, i64_w, i32_w]; rfl))
           refine pu_ (i := 33) (N := some 46) (v := ?_) (a' := ?_) rfl rfl (any_of HT_.out (by kernel_rfl)) (fun _ _ _ h => h) (Or.inl ⟨by rfl, ?_⟩) ?_ ?_; rotate_left; (· (intro w'; go_simp; with_reducible rfl))
           rotate_left; (· (simp only [Act.put, sA_, sZ_, sS_, i64_w, i32_w]; rfl))
           refine pu_ (i := 34) (N := some 47) (v := ?_) (a' := ?_) rfl rfl (any_of HT_.out (by kernel_rfl)) (fun _ _ _ h => h) (Or.inl ⟨by rfl, ?_⟩) ?_ ?_; rotate_left; (· (intro w'; go_simp; with_reducible rfl)); rotate_left; (· (simp only [Act.put, sA_, sZ_, sS_, i64_w, i32_w]; rfl))
           refine pu_ (i := 35) (N := some 48) (v := undef) (a' := ?_) rfl rfl (any_of HT_.out (by kernel_rfl)) (fun _ _ _ h => h) (Or.inr ⟨by rfl, rfl⟩) ?_ ?_; rotate_left; (· (simp only [Act.put, sA_, sZ_, sS_, i64_w, i32_w]; rfl))
           refine pu_ (i := 36) (N := some 49) (v := undef) (a' := ?_) rfl rfl (any_of HT_.out (by kernel_rfl)) (fun _ _ _ h => h) (Or.inr ⟨by rfl, rfl⟩) ?_ ?_
           rotate_left; (· (simp only [Act.put, sA_, sZ_, sS_, i64_w, i32_w]; rfl))
           refine pu_ (i := 37) (N := some 50) (v := undef) (a' := ?_) rfl rfl (any_of HT_.out (by kernel_rfl)) (fun _ _ _ h => h) (Or.inr ⟨by rfl, rfl⟩) ?_ ?_; rotate_left; (· (simp only [Act.put, sA_, sZ_, sS_, i64_w, i32_w]; rfl))
           refine pu_ (i := 38) (N := some 51) (v := undef) (a' := ?_) rfl rfl (any_of HT_.out (by kernel_rfl)) (fun _ _ _ h => h) (Or.inr ⟨by rfl, rfl⟩) ?_ ?_
           rotate_left; (· (simp only [Act.put, sA_, sZ_, sS_, i64_w, i32_w]; rfl))
           refine pu_ (i := 39) (N := some 52) (v := undef) (a' := ?_) rfl rfl (any_of HT_.out (by kernel_rfl)) (fun _ _ _ h => h) (Or.inr ⟨by rfl, rfl⟩) ?_ ?_; rotate_left; (· (simp only [Act.put, sA_, sZ_, sS_, i64_w, i32_w]; rfl))
           refine pu_ (i := 40) (N := some 53) (v := undef) (a' := ?_) rfl rfl (any_of HT_.out (by kernel_rfl)) (fun _ _ _ h => h) (Or.inr ⟨by rfl, rfl⟩) ?_ ?_
           rotate_left; (· (simp only [Act.put, sA_, sZ_, sS_, i64_w, i32_w]; rfl))
           refine pu_ (i := 41) (N := some 54) (v := undef) (a' := ?_) rfl rfl (any_of HT_.out (by kernel_rfl)) (fun _ _ _ h => h) (Or.inr ⟨by rfl, rfl⟩) ?_ ?_; rotate_left; (· (simp only [Act.put, sA_, sZ_, sS_, i64_w, i32_w]; rfl))
           refine pu_ (i := 42) (N := some 55) (v := undef) (a' := ?_) rfl rfl (any_of HT_.out (by kernel_rfl)) (fun _ _ _ h => h) (Or.inr ⟨by rfl, rfl⟩) ?_ ?_
           rotate_left; (· (simp only [Act.put, sA_, sZ_, sS_, i64_w, i32_w]; rfl))
           refine pu_ (i := 43) (N := some 56) (v := ?_) (a' := ?_) rfl rfl (any_of HT_.out (by kernel_rfl)) (fun _ _ _ h => h) (Or.inl ⟨by rfl, ?_⟩) ?_ ?_; rotate_left; (· (intro w'; go_simp; with_reducible rfl)); rotate_left; (· (simp only [Act.put, sA_, sZ_, sS_, i64_w, i32_w]; rfl))
           refine done_ (done_of HT_.out (by kernel_rfl)) ?_
           try go_wp2
           go_meet
           case rel => exact ⟨_, (true), (by first | rfl | (simp; done) | (simp [*]; done)), H', ⟨by have := HK1.out; first | omega | exact Nat.le_refl _⟩, ⟨by (with_reducible repeat (first | refine blk_drewN ?_ _ | refine blk_drew ?_ | refine blk_alloc ?_ _)); exact BK177.out⟩, ⟨by (with_reducible repeat (first | refine blk_drewN ?_ _ | refine blk_drew ?_ | refine blk_alloc ?_ _)); exact BK179.out⟩, ⟨by repeat (first | (with_reducible first | exact HB.out | apply below_alloc | apply pw_below_drewN | apply below_drew1 | refine below_set ?_ GE177.out | refine below_set ?_ GE179.out) | exact HB.out)⟩⟩
         ·replace c43 := Bool.eq_false_iff.mpr c43
          subst c43
          have H1 : (impl_CertOk.j1 k1 l0_2 (l0_2.length : Int) x8_1 true a0_0 l0_1 l0_2) = some r := by rw [if_neg (show ¬ (false = true) by decide)] at H; exact H
          clear H
          have H := H1
          clear H1
          have H' := Aside0.mk H
          clear H
          try go_wp2
          have n0_ : Aside0 (((((w8.setCell ⟨gb179, 0, none⟩ (.int .i64 ((rd_T104 l0_2 x8_1).f0.f0))).setCell ⟨gb179, 1, none⟩ (.int .i64 ((rd_T104 l0_2 x8_1).f0.f1))).setCell ⟨gb179, 2, none⟩ (.int .i64 ((rd_T104 l0_2 x8_1).f1))).setCell ⟨gb179, 3, none⟩ (.int .i64 ((rd_T104 l0_2 x8_1).f2))).heap[gb177]? = some (.cells #[.int .i64 a0_0, .slice A0_1 l0_1.length c0_1, .slice (some ad178) l0_2.length c0_2] 25 (0, 0))) := ⟨by (with_reducible repeat (first | refine blk_drewN ?_ _ | refine blk_drew ?_ | refine blk_alloc ?_ _)); refine blk_far ?_ NB177_179.out _; (with_reducible repeat (first | refine blk_drewN ?_ _ | refine blk_drew ?_ | refine blk_alloc ?_ _)); refine blk_far ?_ NB177_179.out _; (with_reducible repeat (first | refine blk_drewN ?_ _ | refine blk_drew ?_ | refine blk_alloc ?_ _)); refine blk_far ?_ NB177_179.out _; (with_reducible repeat (first | refine blk_drewN ?_ _ | refine blk_drew ?_ | refine blk_alloc ?_ _)); refine blk_far ?_ NB177_179.out _; (with_reducible repeat (first | refine blk_drewN ?_ _ | refine blk_drew ?_ | refine blk_alloc ?_ _)); exact BK177.out⟩
          have n1_ : Aside0 (((((w8.setCell ⟨gb179, 0, none⟩ (.int .i64 ((rd_T104 l0_2 x8_1).f0.f0))).setCell ⟨gb179, 1, none⟩ (.int .i64 ((rd_T104 l0_2 x8_1).f0.f1))).setCell ⟨gb179, 2, none⟩ (.int .i64 ((rd_T104 l0_2 x8_1).f1))).setCell ⟨gb179, 3, none⟩ (.int .i64 ((rd_T104 l0_2 x8_1).f2))).heap[gb179]? = some (.cells #[.int .i64 ((rd_T104 l0_2 x8_1).f0.f0), .int .i64 ((rd_T104 l0_2 x8_1).f0.f1), .int .i64 ((rd_T104 l0_2 x8_1).f1), .int .i64 ((rd_T104 l0_2 x8_1).f2)] 104 (0, 0))) := ⟨by (with_reducible repeat (first | refine blk_drewN ?_ _ | refine blk_drew ?_ | refine blk_alloc ?_ _)); refine blk_put (cs := #[.int .i64 ((rd_T104 l0_2 x8_1).f0.f0), .int .i64 ((rd_T104 l0_2 x8_1).f0.f1), .int .i64 ((rd_T104 l0_2 x8_1).f1), .int .i64 0]) ?_ 3 _ rfl; (with_reducible repeat (first | refine blk_drewN ?_ _ | refine blk_drew ?_ | refine blk_alloc ?_ _)); refine blk_put (cs := #[.int .i64 ((rd_T104 l0_2 x8_1).f0.f0), .int .i64 ((rd_T104 l0_2 x8_1).f0.f1), .int .i64 0, .int .i64 0]) ?_ 2 _ rfl; (with_reducible repeat (first | refine blk_drewN ?_ _ | refine blk_drew ?_ | refine blk_alloc ?_ _)); refine blk_put (cs := #[.int .i64 ((rd_T104 l0_2 x8_1).f0.f0), .int .i64 0, .int .i64 0, .int .i64 0]) ?_ 1 _ rfl; (with_reducible repeat (first | refine blk_drewN ?_ _ | refine blk_drew ?_ | refine blk_alloc ?_ _)); refine blk_put (cs := #[.int .i64 0, .int .i64 0, .int .i64 0, .int .i64 0]) ?_ 0 _ rfl; (with_reducible repeat (first | refine blk_drewN ?_ _ | refine blk_drew ?_ | refine blk_alloc ?_ _)); exact BK179.out⟩
          have n2_ : Aside0 (Below w.heap.size w ((((w8.setCell ⟨gb179, 0, none⟩ (.int .i64 ((rd_T104 l0_2 x8_1).f0.f0))).setCell ⟨gb179, 1, none⟩ (.int .i64 ((rd_T104 l0_2 x8_1).f0.f1))).setCell ⟨gb179, 2, none⟩ (.int .i64 ((rd_T104 l0_2 x8_1).f1))).setCell ⟨gb179, 3, none⟩ (.int .i64 ((rd_T104 l0_2 x8_1).f2)))) := ⟨by repeat (first | (with_reducible first | exact HB.out | apply below_alloc | apply pw_below_drewN | apply below_drew1 | refine below_set ?_ GE177.out | refine below_set ?_ GE179.out) | exact HB.out)⟩
          (try clear BK177)
          (try clear BK179)
          (try clear HB)
          generalize ((((w8.setCell ⟨gb179, 0, none⟩ (.int .i64 ((rd_T104 l0_2 x8_1).f0.f0))).setCell ⟨gb179, 1, none⟩ (.int .i64 ((rd_T104 l0_2 x8_1).f0.f1))).setCell ⟨gb179, 2, none⟩ (.int .i64 ((rd_T104 l0_2 x8_1).f1))).setCell ⟨gb179, 3, none⟩ (.int .i64 ((rd_T104 l0_2 x8_1).f2))) = w56 at n0_ n1_ n2_ ⊢
          have BK177 := n0_
          have BK179 := n1_
          have HB := n2_
          clear n0_ n1_ n2_
          have n0_ := Aside0.mk (blk_drew BK177.out)
          have n1_ := Aside0.mk (blk_drew BK179.out)
          have n2_ := Aside0.mk (below_drew1 HB.out)
          clear BK177
          clear BK179
          clear HB
          have BK177 := n0_
          have BK179 := n1_
          have HB := n2_
          clear n0_ n1_ n2_
          refine start_ (n := 44) (S := fun w' => w'.cell? ⟨gb179, 0, none⟩ = some (.int .i64 ((rd_T104 l0_2 x8_1).f0.f0)) ∧ w'.cell? ⟨gb179, 1, none⟩ = some (.int .i64 ((rd_T104 l0_2 x8_1).f0.f1)) ∧ w'.cell? ⟨gb179, 2, none⟩ = some (.int .i64 ((rd_T104 l0_2 x8_1).f1)) ∧ w'.cell? ⟨gb179, 3, none⟩ = some (.int .i64 ((rd_T104 l0_2 x8_1).f2))) (ds := []) #[false, false, false, false, false, false, false, false, false, false, false, false, false, false, false, false, false, false, false, false, false, false, false, false, false, false, false, false, false, false, false, false, false, false, false, false, false, false, false, false, false, false, false, false] (by kernel_rfl) rfl rfl ⟨(blk_cell BK179.out 0).trans rfl, (blk_cell BK179.out 1).trans rfl, (blk_cell BK179.out 2).trans rfl, (blk_cell BK179.out 3).trans rfl⟩ (fun hHeld => ?_); refine with_tabW impl_CertOk.tab4 impl_CertOk.bits4 (fun HT_ HW_ => ?_)
          generalize w56.drew = w57 at BK177 BK179 HB hHeld ⊢
          refine pu_ (i := 0) (N := some 13) (v := ?_) (a' := ?_) rfl rfl (any_of HT_.out (by kernel_rfl)) (fun _ _ _ h => h) (Or.inl ⟨by rfl, ?_⟩) ?_ ?_; rotate_left; (· (intro w'; go_simp; with_reducible rfl)); rotate_left; (· (simp only [Act.put, sA_, sZ_, sS_, i64_w, i32_w]; rfl))
          refine pu_ (i := 1) (N := some 14) (v := ?_) (a' := ?_) rfl rfl (any_of HT_.out (by kernel_rfl)) (fun _ _ _ h => h) (Or.inl ⟨by rfl, ?_⟩) ?_ ?_; rotate_left; (· (intro w'; go_simp; with_reducible rfl))
          rotate_left; (· (simp only [Act.put, sA_, sZ_, sS_, i64_w, i32_w]; rfl))
          refine pu_ (i := 2) (N := some 15) (v := ?_) (a' := ?_) rfl rfl (any_of HT_.out (by kernel_rfl)) (fun _ _ _ h => h) (Or.inl ⟨by rfl, ?_⟩) ?_ ?_; rotate_left; (· (intro w'; go_simp; with_reducible rfl)); rotate_left; (· (simp only [Act.put, sA_, sZ_, sS_, i64_w, i32_w]; rfl))
          refine pu_ (i := 3) (N := some 16) (v := undef) (a' := ?_) rfl rfl (any_of HT_.out (by kernel_rfl)) (fun _ _ _ h => h) (Or.inr ⟨by rfl, rfl⟩) ?_ ?_; rotate_left; (· (simp only [Act.put, sA_, sZ_, sS_, i64_w, i32_w]; rfl))
          refine pu_ (i := 4) (N := some 17) (v := undef) (a' := ?_) rfl rfl (any_of HT_.out (by kernel_rfl)) (fun _ _ _ h => h) (Or.inr ⟨by rfl, rfl⟩) ?_ ?_
          rotate_left; (· (simp only [Act.put, sA_, sZ_, sS_, i64_w, i32_w]; rfl))
          refine pu_ (i := 5) (N := some 18) (v := undef) (a' := ?_) rfl rfl (any_of HT_.out (by kernel_rfl)) (fun _ _ _ h => h) (Or.inr ⟨by rfl, rfl⟩) ?_ ?_; rotate_left; (· (simp only [Act.put, sA_, sZ_, sS_, i64_w, i32_w]; rfl))
          refine pu_ (i := 6) (N := some 19) (v := undef) (a' := ?_) rfl rfl (any_of HT_.out (by kernel_rfl)) (fun _ _ _ h => h) (Or.inr ⟨by rfl, rfl⟩) ?_ ?_
          rotate_left; (· (simp only [Act.put, sA_, sZ_, sS_, i64_w, i32_w]; rfl))
          refine pu_ (i := 7) (N := some 20) (v := undef) (a' := ?_) rfl rfl (any_of HT_.out (by kernel_rfl)) (fun _ _ _ h => h) (Or.inr ⟨by rfl, rfl⟩) ?_ ?_; rotate_left; (· (simp only [Act.put, sA_, sZ_, sS_, i64_w, i32_w]; rfl))
          refine pu_ (i := 8) (N := some 21) (v := undef) (a' := ?_) rfl rfl (any_of HT_.out (by kernel_rfl)) (fun _ _ _ h => h) (Or.inr ⟨by rfl, rfl⟩) ?_ ?_
          rotate_left; (· (simp only [Act.put, sA_, sZ_, sS_, i64_w, i32_w]; rfl))
          refine pu_ (i := 9) (N := some 22) (v := undef) (a' := ?_) rfl rfl (any_of HT_.out (by kernel_rfl)) (fun _ _ _ h => h) (Or.inr ⟨by rfl, rfl⟩) ?_ ?_; rotate_left; (· (simp only [Act.put, sA_, sZ_, sS_, i64_w, i32_w]; rfl))
          refine pu_ (i := 10) (N := some 23) (v := undef) (a' := ?_) rfl rfl (any_of HT_.out (by kernel_rfl)) (fun _ _ _ h => h) (Or.inr ⟨by rfl, rfl⟩) ?_ ?_
          rotate_left; (· (simp only [Act.put, sA_, sZ_, sS_, i64_w, i32_w]; rfl))
          refine pu_ (i := 11) (N := some 24) (v := undef) (a' := ?_) rfl rfl (any_of HT_.out (by kernel_rfl)) (fun _ _ _ h => h) (Or.inr ⟨by rfl, rfl⟩) ?_ ?_; rotate_left; (· (simp only [Act.put, sA_, sZ_, sS_, i64_w, i32_w]; rfl))
          refine pu_ (i := 12) (N := some 25) (v := undef) (a' := ?_) rfl rfl (any_of HT_.out (by kernel_rfl)) (fun _ _ _ h => h) (Or.inr ⟨by rfl, rfl⟩) ?_ ?_
          rotate_left; (· (simp only [Act.put, sA_, sZ_, sS_, i64_w, i32_w]; rfl))
          refine pu_ (i := 13) (N := some 26) (v := undef) (a' := ?_) rfl rfl (any_of HT_.out (by kernel_rfl)) (fun _ _ _ h => h) (Or.inr ⟨by rfl, rfl⟩) ?_ ?_; rotate_left; (· (simp only [Act.put, sA_, sZ_, sS_, i64_w, i32_w]; rfl))
          refine pu_ (i := 14) (N := some 27) (v := undef) (a' := ?_) rfl rfl (any_of HT_.out (by kernel_rfl)) (fun _ _ _ h => h) (Or.inr ⟨by rfl, rfl⟩) ?_ ?_
          rotate_left; (· (simp only [Act.put, sA_, sZ_, sS_, i64_w, i32_w]; rfl))
          refine pu_ (i := 15) (N := some 28) (v := ?_) (a' := ?_) rfl rfl (any_of HT_.out (by kernel_rfl)) (fun _ _ _ h => h) (Or.inl ⟨by rfl, ?_⟩) ?_ ?_; rotate_left; (· (intro w'; go_simp; with_reducible rfl)); rotate_left; (· (simp only [Act.put, sA_, sZ_, sS_, i64_w, i32_w]; rfl))
          refine pu_ (i := 16) (N := some 29) (v := ?_) (a' := ?_) rfl rfl (any_of HT_.out (by kernel_rfl)) (fun _ _ _ h => h) (Or.inl ⟨by rfl, ?_⟩) ?_ ?_; rotate_left; (· (intro w'; go_simp; with_reducible rfl))
          rotate_left; (· (simp only [Act.put, sA_, sZ_, sS_, i64_w, i32_w]; rfl))
          refine pu_ (i := 17) (N := some 30) (v := ?_) (a' := ?_) rfl rfl (any_of HT_.out (by kernel_rfl)) (fun _ _ _ h => h) (Or.inl ⟨by rfl, ?_⟩) ?_ ?_; rotate_left; (· (intro w'; go_simp; with_reducible rfl)); rotate_left; (· (simp only [Act.put, sA_, sZ_, sS_, i64_w, i32_w]; rfl))
          refine ta_ (i := 18) (N := some 31) (v := ?_) (a' := ?_) rfl rfl (take_ofW HT_.out HW_.out (by kernel_rfl)) (fun _ _ _ h => h) (Or.inl ⟨by rfl, ?_⟩) hHeld ?_ ?_
          rotate_left
          ·rintro w' ⟨s0, s1, s2, s3⟩
           go_simp
           with_reducible rfl
          rotate_left; (· (simp only [Act.put, sA_, sZ_, sS_, i64_w, i32_w]; rfl))
          refine on_ (i := 19) (N := some 32) rfl rfl (one_of HT_.out (by kernel_rfl)) (by decide) (fun K hK => ?_)
          refine goes_ Try.func91 (by kernel_rfl) rfl #[.agg #[.int .i64 ((rd_T104 l0_2 x8_1).f0.f0), .int .i64 ((rd_T104 l0_2 x8_1).f0.f1)]] (by rfl) rfl rfl (by (try simp only [List.map_toArray, List.map_cons, List.map_nil]); first | done | rfl | (simp only [List.length_drop, List.length_take]; rfl)) ?_
          with_reducible refine (impl_reqOk.calls ((rd_T104 l0_2 x8_1).f0.f0) ((rd_T104 l0_2 x8_1).f0.f1) true _ A40.out).mono ?_
          rintro e w58 ⟨rfl, hb⟩
          refine ⟨_, rfl, ?_⟩
          have n0_ := Aside0.mk (blk_below (g := gb177) (o := .cells #[.int .i64 a0_0, .slice A0_1 l0_1.length c0_1, .slice (some ad178) l0_2.length c0_2] 25 (0, 0)) (by (with_reducible repeat (first | refine blk_drewN ?_ _ | refine blk_drew ?_ | refine blk_alloc ?_ _)); exact BK177.out) hb)
          have n1_ := Aside0.mk (blk_below (g := gb179) (o := .cells #[.int .i64 ((rd_T104 l0_2 x8_1).f0.f0), .int .i64 ((rd_T104 l0_2 x8_1).f0.f1), .int .i64 ((rd_T104 l0_2 x8_1).f1), .int .i64 ((rd_T104 l0_2 x8_1).f2)] 104 (0, 0)) (by (with_reducible repeat (first | refine blk_drewN ?_ _ | refine blk_drew ?_ | refine blk_alloc ?_ _)); exact BK179.out) hb)
          have n2_ := Aside0.mk (below_step (by repeat (first | (with_reducible first | exact HB.out | apply below_alloc | apply pw_below_drewN | apply below_drew1 | refine below_set ?_ GE177.out | refine below_set ?_ GE179.out) | exact HB.out)) hb)
          clear BK177
          clear BK179
          clear HB
          have BK177 := n0_
          have BK179 := n1_
          have HB := n2_
          clear n0_ n1_ n2_
          (try clear hb)
          (try clear hb2)
          (try clear hk)
          (try clear hi)
          refine hK.out _ _ ⟨(blk_cell BK179.out 0).trans rfl, (blk_cell BK179.out 1).trans rfl, (blk_cell BK179.out 2).trans rfl, (blk_cell BK179.out 3).trans rfl⟩ (fun hHeld => ?_)
          clear hK K
          refine norm_ (a' := ?_) ?_ ?_
          rotate_left
          ·show Act.put _ (some 32) _ = _
           simp only [Act.put, sA_, sZ_, sS_, i64_w, i32_w]
           rfl
          refine pu_ (i := 20) (N := some 33) (v := ?_) (a' := ?_) rfl rfl (any_of HT_.out (by kernel_rfl)) (fun _ _ _ h => h) (Or.inl ⟨by rfl, ?_⟩) ?_ ?_; rotate_left; (· (intro w'; go_simp; with_reducible rfl)); rotate_left; (· (simp only [Act.put, sA_, sZ_, sS_, i64_w, i32_w]; rfl))
          refine pu_ (i := 21) (N := some 34) (v := ?_) (a' := ?_) rfl rfl (any_of HT_.out (by kernel_rfl)) (fun _ _ _ h => h) (Or.inl ⟨by rfl, ?_⟩) ?_ ?_; rotate_left; (· (intro w'; go_simp; with_reducible rfl))
          rotate_left; (· (simp only [Act.put, sA_, sZ_, sS_, i64_w, i32_w]; rfl))
          refine pu_ (i := 22) (N := some 35) (v := ?_) (a' := ?_) rfl rfl (any_of HT_.out (by kernel_rfl)) (fun _ _ _ h => h) (Or.inl ⟨by rfl, ?_⟩) ?_ ?_; rotate_left; (· (intro w'; go_simp; with_reducible rfl)); rotate_left; (· (simp only [Act.put, sA_, sZ_, sS_, i64_w, i32_w]; rfl))
          refine pu_ (i := 23) (N := some 36) (v := ?_) (a' := ?_) rfl rfl (any_of HT_.out (by kernel_rfl)) (fun _ _ _ h => h) (Or.inl ⟨by rfl, ?_⟩) ?_ ?_; rotate_left; (· (intro w'; go_simp; with_reducible rfl))
          rotate_left; (· (simp only [Act.put, sA_, sZ_, sS_, i64_w, i32_w]; rfl))
          refine ta_ (i := 24) (N := some 37) (v := ?_) (a' := ?_) rfl rfl (take_ofW HT_.out HW_.out (by kernel_rfl)) (fun _ _ _ h => h) (Or.inl ⟨by rfl, ?_⟩) hHeld ?_ ?_
          rotate_left
          ·rintro w' ⟨s0, s1, s2, s3⟩
           go_simp
           with_reducible rfl
          rotate_left; (· (simp only [Act.put, sA_, sZ_, sS_, i64_w, i32_w]; rfl))
          refine on_ (i := 25) (N := some 38) rfl rfl (one_of HT_.out (by kernel_rfl)) (by decide) (fun K hK => ?_)
          refine goes_ Try.func78 (by kernel_rfl) rfl #[.int .i64 ((rd_T104 l0_2 x8_1).f1), .int .i64 0, .int .i64 2] (by rfl) rfl rfl (by (try simp only [List.map_toArray, List.map_cons, List.map_nil]); first | done | rfl | (simp only [List.length_drop, List.length_take]; rfl)) ?_
          with_reducible refine (impl_in.calls ((rd_T104 l0_2 x8_1).f1) 0 2 false _ A42.out).mono ?_
          rintro e w' ⟨rfl, ⟨nd, rfl⟩⟩
          refine ⟨_, rfl, ?_⟩
          refine hK.out _ _ ⟨(blk_cell BK179.out 0).trans rfl, (blk_cell BK179.out 1).trans rfl, (blk_cell BK179.out 2).trans rfl, (blk_cell BK179.out 3).trans rfl⟩ (fun hHeld => ?_)
          clear hK K
          refine norm_ (a' := ?_) ?_ ?_
          rotate_left
          ·show Act.put _ (some 38) _ = _
           simp only [Act.put, sA_, sZ_, sS_, i64_w, i32_w]
           rfl
          refine pu_ (i := 26) (N := some 39) (v := ?_) (a' := ?_) rfl rfl (any_of HT_.out (by kernel_rfl)) (fun _ _ _ h => h) (Or.inl ⟨by rfl, ?_⟩) ?_ ?_; rotate_left; (· (intro w'; go_simp; with_reducible rfl)); rotate_left; (· (simp only [Act.put, sA_, sZ_, sS_, i64_w, i32_w]; rfl))
          refine pu_ (i := 27) (N := some 40) (v := ?_) (a' := ?_) rfl rfl (any_of HT_.out (by kernel_rfl)) (fun _ _ _ h => h) (Or.inl ⟨by rfl, ?_⟩) ?_ ?_; rotate_left; (· (intro w'; go_simp; with_reducible rfl))
          rotate_left; (· (simp only [Act.put, sA_, sZ_, sS_, i64_w, i32_w]; rfl))
          refine pu_ (i := 28) (N := some 41) (v := ?_) (a' := ?_) rfl rfl (any_of HT_.out (by kernel_rfl)) (fun _ _ _ h => h) (Or.inl ⟨by rfl, ?_⟩) ?_ ?_; rotate_left; (· (intro w'; go_simp; with_reducible rfl)); rotate_left; (· (simp only [Act.put, sA_, sZ_, sS_, i64_w, i32_w]; rfl))
          refine pu_ (i := 29) (N := some 42) (v := undef) (a' := ?_) rfl rfl (any_of HT_.out (by kernel_rfl)) (fun _ _ _ h => h) (Or.inr ⟨by rfl, rfl⟩) ?_ ?_; rotate_left; (· (simp only [Act.put, sA_, sZ_, sS_, i64_w, i32_w]; rfl))
          refine pu_ (i := 30) (N := some 43) (v := undef) (a' := ?_) rfl rfl (any_of HT_.out (by kernel_rfl)) (fun _ _ _ h => h) (Or.inr ⟨by rfl, rfl⟩) ?_ ?_
          rotate_left; (· (simp only [Act.put, sA_, sZ_, sS_, i64_w, i32_w]; rfl))
          refine pu_ (i := 31) (N := some 44) (v := undef) (a' := ?_) rfl rfl (any_of HT_.out (by kernel_rfl)) (fun _ _ _ h => h) (Or.inr ⟨by rfl, rfl⟩) ?_ ?_; rotate_left; (· (simp only [Act.put, sA_, sZ_, sS_, i64_w, i32_w]; rfl))
          refine pu_ (i := 32) (N := some 45) (v := undef) (a' := ?_) rfl rfl (any_of HT_.out (by kernel_rfl)) (fun _ _ _ h => h) (Or.inr ⟨by rfl, rfl⟩) ?_ ?_
          rotate_left; (· (simp only [Act.put, sA_, sZ_, sS_, i64_w, i32_w]; rfl))
          refine pu_ (i := 33) (N := some 46) (v := ?_) (a' := ?_) rfl rfl (any_of HT_.out (by kernel_rfl)) (fun _ _ _ h => h) (Or.inl ⟨by rfl, ?_⟩) ?_ ?_; rotate_left; (· (intro w'; go_simp; with_reducible rfl)); rotate_left; (· (simp only [Act.put, sA_, sZ_, sS_, i64_w, i32_w]; rfl))
          refine pu_ (i := 34) (N := some 47) (v := ?_) (a' := ?_) rfl rfl (any_of HT_.out (by kernel_rfl)) (fun _ _ _ h => h) (Or.inl ⟨by rfl, ?_⟩) ?_ ?_; rotate_left; (· (intro w'; go_simp; with_reducible rfl))
          rotate_left; (· (simp only [Act.put, sA_, sZ_, sS_, i64_w, i32_w]; rfl))
          refine pu_ (i := 35) (N := some 48) (v := undef) (a' := ?_) rfl rfl (any_of HT_.out (by kernel_rfl)) (fun _ _ _ h => h) (Or.inr ⟨by rfl, rfl⟩) ?_ ?_; rotate_left; (· (simp only [Act.put, sA_, sZ_, sS_, i64_w, i32_w]; rfl))
          refine pu_ (i := 36) (N := some 49) (v := undef) (a' := ?_) rfl rfl (any_of HT_.out (by kernel_rfl)) (fun _ _ _ h => h) (Or.inr ⟨by rfl, rfl⟩) ?_ ?_
          rotate_left; (· (simp only [Act.put, sA_, sZ_, sS_, i64_w, i32_w]; rfl))
          refine pu_ (i := 37) (N := some 50) (v := undef) (a' := ?_) rfl rfl (any_of HT_.out (by kernel_rfl)) (fun _ _ _ h => h) (Or.inr ⟨by rfl, rfl⟩) ?_ ?_; rotate_left; (· (simp only [Act.put, sA_, sZ_, sS_, i64_w, i32_w]; rfl))
          refine pu_ (i := 38) (N := some 51) (v := undef) (a' := ?_) rfl rfl (any_of HT_.out (by kernel_rfl)) (fun _ _ _ h => h) (Or.inr ⟨by rfl, rfl⟩) ?_ ?_
          rotate_left; (· (simp only [Act.put, sA_, sZ_, sS_, i64_w, i32_w]; rfl))
          refine pu_ (i := 39) (N := some 52) (v := undef) (a' := ?_) rfl rfl (any_of HT_.out (by kernel_rfl)) (fun _ _ _ h => h) (Or.inr ⟨by rfl, rfl⟩) ?_ ?_; rotate_left; (· (simp only [Act.put, sA_, sZ_, sS_, i64_w, i32_w]; rfl))
          refine pu_ (i := 40) (N := some 53) (v := undef) (a' := ?_) rfl rfl (any_of HT_.out (by kernel_rfl)) (fun _ _ _ h => h) (Or.inr ⟨by rfl, rfl⟩) ?_ ?_
          rotate_left; (· (simp only [Act.put, sA_, sZ_, sS_, i64_w, i32_w]; rfl))
          refine pu_ (i := 41) (N := some 54) (v := undef) (a' := ?_) rfl rfl (any_of HT_.out (by kernel_rfl)) (fun _ _ _ h => h) (Or.inr ⟨by rfl, rfl⟩) ?_ ?_; rotate_left; (· (simp only [Act.put, sA_, sZ_, sS_, i64_w, i32_w]; rfl))
          refine pu_ (i := 42) (N := some 55) (v := undef) (a' := ?_) rfl rfl (any_of HT_.out (by kernel_rfl)) (fun _ _ _ h => h) (Or.inr ⟨by rfl, rfl⟩) ?_ ?_
          rotate_left; (· (simp only [Act.put, sA_, sZ_, sS_, i64_w, i32_w]; rfl))
          refine pu_ (i := 43) (N := some 56) (v := ?_) (a' := ?_) rfl rfl (any_of HT_.out (by kernel_rfl)) (fun _ _ _ h => h) (Or.inl ⟨by rfl, ?_⟩) ?_ ?_; rotate_left; (· (intro w'; go_simp; with_reducible rfl)); rotate_left; (· (simp only [Act.put, sA_, sZ_, sS_, i64_w, i32_w]; rfl))
          refine done_ (done_of HT_.out (by kernel_rfl)) ?_
          try go_wp2
          go_meet
          case rel => exact ⟨_, (true), (by first | rfl | (simp; done) | (simp [*]; done)), H', ⟨by have := HK1.out; first | omega | exact Nat.le_refl _⟩, ⟨by (with_reducible repeat (first | refine blk_drewN ?_ _ | refine blk_drew ?_ | refine blk_alloc ?_ _)); exact BK177.out⟩, ⟨by (with_reducible repeat (first | refine blk_drewN ?_ _ | refine blk_drew ?_ | refine blk_alloc ?_ _)); exact BK179.out⟩, ⟨by repeat (first | (with_reducible first | exact HB.out | apply below_alloc | apply pw_below_drewN | apply below_drew1 | refine below_set ?_ GE177.out | refine below_set ?_ GE179.out) | exact HB.out)⟩⟩
        ·replace c41 := Bool.eq_false_iff.mpr c41
         subst c41
         have H1 : (impl_CertOk.j1 k1 l0_2 (l0_2.length : Int) x8_1 true a0_0 l0_1 l0_2) = some r := by rw [if_neg (show ¬ (false = true) by decide)] at H; exact H
         clear H
         have H := H1
         clear H1
         have H' := Aside0.mk H
         clear H
         try go_wp2
         have n0_ : Aside0 (((((w8.setCell ⟨gb179, 0, none⟩ (.int .i64 ((rd_T104 l0_2 x8_1).f0.f0))).setCell ⟨gb179, 1, none⟩ (.int .i64 ((rd_T104 l0_2 x8_1).f0.f1))).setCell ⟨gb179, 2, none⟩ (.int .i64 ((rd_T104 l0_2 x8_1).f1))).setCell ⟨gb179, 3, none⟩ (.int .i64 ((rd_T104 l0_2 x8_1).f2))).heap[gb177]? = some (.cells #[.int .i64 a0_0, .slice A0_1 l0_1.length c0_1, .slice (some ad178) l0_2.length c0_2] 25 (0, 0))) := ⟨by (with_reducible repeat (first | refine blk_drewN ?_ _ | refine blk_drew ?_ | refine blk_alloc ?_ _)); refine blk_far ?_ NB177_179.out _; (with_reducible repeat (first | refine blk_drewN ?_ _ | refine blk_drew ?_ | refine blk_alloc ?_ _)); refine blk_far ?_ NB177_179.out _; (with_reducible repeat (first | refine blk_drewN ?_ _ | refine blk_drew ?_ | refine blk_alloc ?_ _)); refine blk_far ?_ NB177_179.out _; (with_reducible repeat (first | refine blk_drewN ?_ _ | refine blk_drew ?_ | refine blk_alloc ?_ _)); refine blk_far ?_ NB177_179.out _; (with_reducible repeat (first | refine blk_drewN ?_ _ | refine blk_drew ?_ | refine blk_alloc ?_ _)); exact BK177.out⟩
         have n1_ : Aside0 (((((w8.setCell ⟨gb179, 0, none⟩ (.int .i64 ((rd_T104 l0_2 x8_1).f0.f0))).setCell ⟨gb179, 1, none⟩ (.int .i64 ((rd_T104 l0_2 x8_1).f0.f1))).setCell ⟨gb179, 2, none⟩ (.int .i64 ((rd_T104 l0_2 x8_1).f1))).setCell ⟨gb179, 3, none⟩ (.int .i64 ((rd_T104 l0_2 x8_1).f2))).heap[gb179]? = some (.cells #[.int .i64 ((rd_T104 l0_2 x8_1).f0.f0), .int .i64 ((rd_T104 l0_2 x8_1).f0.f1), .int .i64 ((rd_T104 l0_2 x8_1).f1), .int .i64 ((rd_T104 l0_2 x8_1).f2)] 104 (0, 0))) := ⟨by (with_reducible repeat (first | refine blk_drewN ?_ _ | refine blk_drew ?_ | refine blk_alloc ?_ _)); refine blk_put (cs := #[.int .i64 ((rd_T104 l0_2 x8_1).f0.f0), .int .i64 ((rd_T104 l0_2 x8_1).f0.f1), .int .i64 ((rd_T104 l0_2 x8_1).f1), .int .i64 0]) ?_ 3 _ rfl; (with_reducible repeat (first | refine blk_drewN ?_ _ | refine blk_drew ?_ | refine blk_alloc ?_ _)); refine blk_put (cs := #[.int .i64 ((rd_T104 l0_2 x8_1).f0.f0), .int .i64 ((rd_T104 l0_2 x8_1).f0.f1), .int .i64 0, .int .i64 0]) ?_ 2 _ rfl; (with_reducible repeat (first | refine blk_drewN ?_ _ | refine blk_drew ?_ | refine blk_alloc ?_ _)); refine blk_put (cs := #[.int .i64 ((rd_T104 l0_2 x8_1).f0.f0), .int .i64 0, .int .i64 0, .int .i64 0]) ?_ 1 _ rfl; (with_reducible repeat (first | refine blk_drewN ?_ _ | refine blk_drew ?_ | refine blk_alloc ?_ _)); refine blk_put (cs := #[.int .i64 0, .int .i64 0, .int .i64 0, .int .i64 0]) ?_ 0 _ rfl; (with_reducible repeat (first | refine blk_drewN ?_ _ | refine blk_drew ?_ | refine blk_alloc ?_ _)); exact BK179.out⟩
         have n2_ : Aside0 (Below w.heap.size w ((((w8.setCell ⟨gb179, 0, none⟩ (.int .i64 ((rd_T104 l0_2 x8_1).f0.f0))).setCell ⟨gb179, 1, none⟩ (.int .i64 ((rd_T104 l0_2 x8_1).f0.f1))).setCell ⟨gb179, 2, none⟩ (.int .i64 ((rd_T104 l0_2 x8_1).f1))).setCell ⟨gb179, 3, none⟩ (.int .i64 ((rd_T104 l0_2 x8_1).f2)))) := ⟨by repeat (first | (with_reducible first | exact HB.out | apply below_alloc | apply pw_below_drewN | apply below_drew1 | refine below_set ?_ GE177.out | refine below_set ?_ GE179.out) | exact HB.out)⟩
         (try clear BK177)
         (try clear BK179)
         (try clear HB)
         generalize ((((w8.setCell ⟨gb179, 0, none⟩ (.int .i64 ((rd_T104 l0_2 x8_1).f0.f0))).setCell ⟨gb179, 1, none⟩ (.int .i64 ((rd_T104 l0_2 x8_1).f0.f1))).setCell ⟨gb179, 2, none⟩ (.int .i64 ((rd_T104 l0_2 x8_1).f1))).setCell ⟨gb179, 3, none⟩ (.int .i64 ((rd_T104 l0_2 x8_1).f2))) = w59 at n0_ n1_ n2_ ⊢
         have BK177 := n0_
         have BK179 := n1_
         have HB := n2_
         clear n0_ n1_ n2_
         have n0_ := Aside0.mk (blk_drew BK177.out)
         have n1_ := Aside0.mk (blk_drew BK179.out)
         have n2_ := Aside0.mk (below_drew1 HB.out)
         clear BK177
         clear BK179
         clear HB
         have BK177 := n0_
         have BK179 := n1_
         have HB := n2_
         clear n0_ n1_ n2_
         refine start_ (n := 44) (S := fun w' => w'.cell? ⟨gb179, 0, none⟩ = some (.int .i64 ((rd_T104 l0_2 x8_1).f0.f0)) ∧ w'.cell? ⟨gb179, 1, none⟩ = some (.int .i64 ((rd_T104 l0_2 x8_1).f0.f1)) ∧ w'.cell? ⟨gb179, 2, none⟩ = some (.int .i64 ((rd_T104 l0_2 x8_1).f1)) ∧ w'.cell? ⟨gb179, 3, none⟩ = some (.int .i64 ((rd_T104 l0_2 x8_1).f2))) (ds := []) #[false, false, false, false, false, false, false, false, false, false, false, false, false, false, false, false, false, false, false, false, false, false, false, false, false, false, false, false, false, false, false, false, false, false, false, false, false, false, false, false, false, false, false, false] (by kernel_rfl) rfl rfl ⟨(blk_cell BK179.out 0).trans rfl, (blk_cell BK179.out 1).trans rfl, (blk_cell BK179.out 2).trans rfl, (blk_cell BK179.out 3).trans rfl⟩ (fun hHeld => ?_); refine with_tabW impl_CertOk.tab4 impl_CertOk.bits4 (fun HT_ HW_ => ?_)
         generalize w59.drew = w60 at BK177 BK179 HB hHeld ⊢
         refine pu_ (i := 0) (N := some 13) (v := ?_) (a' := ?_) rfl rfl (any_of HT_.out (by kernel_rfl)) (fun _ _ _ h => h) (Or.inl ⟨by rfl, ?_⟩) ?_ ?_; rotate_left; (· (intro w'; go_simp; with_reducible rfl)); rotate_left; (· (simp only [Act.put, sA_, sZ_, sS_, i64_w, i32_w]; rfl))
         refine pu_ (i := 1) (N := some 14) (v := ?_) (a' := ?_) rfl rfl (any_of HT_.out (by kernel_rfl)) (fun _ _ _ h => h) (Or.inl ⟨by rfl, ?_⟩) ?_ ?_; rotate_left; (· (intro w'; go_simp; with_reducible rfl))
         rotate_left; (· (simp only [Act.put, sA_, sZ_, sS_, i64_w, i32_w]; rfl))
         refine pu_ (i := 2) (N := some 15) (v := ?_) (a' := ?_) rfl rfl (any_of HT_.out (by kernel_rfl)) (fun _ _ _ h => h) (Or.inl ⟨by rfl, ?_⟩) ?_ ?_; rotate_left; (· (intro w'; go_simp; with_reducible rfl)); rotate_left; (· (simp only [Act.put, sA_, sZ_, sS_, i64_w, i32_w]; rfl))
         refine pu_ (i := 3) (N := some 16) (v := undef) (a' := ?_) rfl rfl (any_of HT_.out (by kernel_rfl)) (fun _ _ _ h => h) (Or.inr ⟨by rfl, rfl⟩) ?_ ?_; rotate_left; (· (simp only [Act.put, sA_, sZ_, sS_, i64_w, i32_w]; rfl))
         refine pu_ (i := 4) (N := some 17) (v := undef) (a' := ?_) rfl rfl (any_of HT_.out (by kernel_rfl)) (fun _ _ _ h => h) (Or.inr ⟨by rfl, rfl⟩) ?_ ?_
         rotate_left; (· (simp only [Act.put, sA_, sZ_, sS_, i64_w, i32_w]; rfl))
         refine pu_ (i := 5) (N := some 18) (v := undef) (a' := ?_) rfl rfl (any_of HT_.out (by kernel_rfl)) (fun _ _ _ h => h) (Or.inr ⟨by rfl, rfl⟩) ?_ ?_; rotate_left; (· (simp only [Act.put, sA_, sZ_, sS_, i64_w, i32_w]; rfl))
         refine pu_ (i := 6) (N := some 19) (v := undef) (a' := ?_) rfl rfl (any_of HT_.out (by kernel_rfl)) (fun _ _ _ h => h) (Or.inr ⟨by rfl, rfl⟩) ?_ ?_
         rotate_left; (· (simp only [Act.put, sA_, sZ_, sS_, i64_w, i32_w]; rfl))
         refine pu_ (i := 7) (N := some 20) (v := undef) (a' := ?_) rfl rfl (any_of HT_.out (by kernel_rfl)) (fun _ _ _ h => h) (Or.inr ⟨by rfl, rfl⟩) ?_ ?_; rotate_left; (· (simp only [Act.put, sA_, sZ_, sS_, i64_w, i32_w]; rfl))
         refine pu_ (i := 8) (N := some 21) (v := undef) (a' := ?_) rfl rfl (any_of HT_.out (by kernel_rfl)) (fun _ _ _ h => h) (Or.inr ⟨by rfl, rfl⟩) ?_ ?_
         rotate_left; (· (simp only [Act.put, sA_, sZ_, sS_, i64_w, i32_w]; rfl))
         refine pu_ (i := 9) (N := some 22) (v := undef) (a' := ?_) rfl rfl (any_of HT_.out (by kernel_rfl)) (fun _ _ _ h => h) (Or.inr ⟨by rfl, rfl⟩) ?_ ?_; rotate_left; (· (simp only [Act.put, sA_, sZ_, sS_, i64_w, i32_w]; rfl))
         refine pu_ (i := 10) (N := some 23) (v := undef) (a' := ?_) rfl rfl (any_of HT_.out (by kernel_rfl)) (fun _ _ _ h => h) (Or.inr ⟨by rfl, rfl⟩) ?_ ?_
         rotate_left; (· (simp only [Act.put, sA_, sZ_, sS_, i64_w, i32_w]; rfl))
         refine pu_ (i := 11) (N := some 24) (v := undef) (a' := ?_) rfl rfl (any_of HT_.out (by kernel_rfl)) (fun _ _ _ h => h) (Or.inr ⟨by rfl, rfl⟩) ?_ ?_; rotate_left; (· (simp only [Act.put, sA_, sZ_, sS_, i64_w, i32_w]; rfl))
         refine pu_ (i := 12) (N := some 25) (v := undef) (a' := ?_) rfl rfl (any_of HT_.out (by kernel_rfl)) (fun _ _ _ h => h) (Or.inr ⟨by rfl, rfl⟩) ?_ ?_
         rotate_left; (· (simp only [Act.put, sA_, sZ_, sS_, i64_w, i32_w]; rfl))
         refine pu_ (i := 13) (N := some 26) (v := undef) (a' := ?_) rfl rfl (any_of HT_.out (by kernel_rfl)) (fun _ _ _ h => h) (Or.inr ⟨by rfl, rfl⟩) ?_ ?_; rotate_left; (· (simp only [Act.put, sA_, sZ_, sS_, i64_w, i32_w]; rfl))
         refine pu_ (i := 14) (N := some 27) (v := undef) (a' := ?_) rfl rfl (any_of HT_.out (by kernel_rfl)) (fun _ _ _ h => h) (Or.inr ⟨by rfl, rfl⟩) ?_ ?_
         rotate_left; (· (simp only [Act.put, sA_, sZ_, sS_, i64_w, i32_w]; rfl))
         refine pu_ (i := 15) (N := some 28) (v := ?_) (a' := ?_) rfl rfl (any_of HT_.out (by kernel_rfl)) (fun _ _ _ h => h) (Or.inl ⟨by rfl, ?_⟩) ?_ ?_; rotate_left; (· (intro w'; go_simp; with_reducible rfl)); rotate_left; (· (simp only [Act.put, sA_, sZ_, sS_, i64_w, i32_w]; rfl))
         refine pu_ (i := 16) (N := some 29) (v := ?_) (a' := ?_) rfl rfl (any_of HT_.out (by kernel_rfl)) (fun _ _ _ h => h) (Or.inl ⟨by rfl, ?_⟩) ?_ ?_; rotate_left; (· (intro w'; go_simp; with_reducible rfl))
         rotate_left; (· (simp only [Act.put, sA_, sZ_, sS_, i64_w, i32_w]; rfl))
         refine pu_ (i := 17) (N := some 30) (v := ?_) (a' := ?_) rfl rfl (any_of HT_.out (by kernel_rfl)) (fun _ _ _ h => h) (Or.inl ⟨by rfl, ?_⟩) ?_ ?_; rotate_left; (· (intro w'; go_simp; with_reducible rfl)); rotate_left; (· (simp only [Act.put, sA_, sZ_, sS_, i64_w, i32_w]; rfl))
         refine ta_ (i := 18) (N := some 31) (v := ?_) (a' := ?_) rfl rfl (take_ofW HT_.out HW_.out (by kernel_rfl)) (fun _ _ _ h => h) (Or.inl ⟨by rfl, ?_⟩) hHeld ?_ ?_
         rotate_left
         ·rintro w' ⟨s0, s1, s2, s3⟩
          go_simp
          with_reducible rfl
         rotate_left; (· (simp only [Act.put, sA_, sZ_, sS_, i64_w, i32_w]; rfl))
         refine on_ (i := 19) (N := some 32) rfl rfl (one_of HT_.out (by kernel_rfl)) (by decide) (fun K hK => ?_)
         refine goes_ Try.func91 (by kernel_rfl) rfl #[.agg #[.int .i64 ((rd_T104 l0_2 x8_1).f0.f0), .int .i64 ((rd_T104 l0_2 x8_1).f0.f1)]] (by rfl) rfl rfl (by (try simp only [List.map_toArray, List.map_cons, List.map_nil]); first | done | rfl | (simp only [List.length_drop, List.length_take]; rfl)) ?_
         with_reducible refine (impl_reqOk.calls ((rd_T104 l0_2 x8_1).f0.f0) ((rd_T104 l0_2 x8_1).f0.f1) false _ A40.out).mono ?_
         rintro e w61 ⟨rfl, hb⟩
         refine ⟨_, rfl, ?_⟩
         have n0_ := Aside0.mk (blk_below (g := gb177) (o := .cells #[.int .i64 a0_0, .slice A0_1 l0_1.length c0_1, .slice (some ad178) l0_2.length c0_2] 25 (0, 0)) (by (with_reducible repeat (first | refine blk_drewN ?_ _ | refine blk_drew ?_ | refine blk_alloc ?_ _)); exact BK177.out) hb)
         have n1_ := Aside0.mk (blk_below (g := gb179) (o := .cells #[.int .i64 ((rd_T104 l0_2 x8_1).f0.f0), .int .i64 ((rd_T104 l0_2 x8_1).f0.f1), .int .i64 ((rd_T104 l0_2 x8_1).f1), .int .i64 ((rd_T104 l0_2 x8_1).f2)] 104 (0, 0)) (by (with_reducible repeat (first | refine blk_drewN ?_ _ | refine blk_drew ?_ | refine blk_alloc ?_ _)); exact BK179.out) hb)
         have n2_ := Aside0.mk (below_step (by repeat (first | (with_reducible first | exact HB.out | apply below_alloc | apply pw_below_drewN | apply below_drew1 | refine below_set ?_ GE177.out | refine below_set ?_ GE179.out) | exact HB.out)) hb)
         clear BK177
         clear BK179
         clear HB
         have BK177 := n0_
         have BK179 := n1_
         have HB := n2_
         clear n0_ n1_ n2_
         (try clear hb)
         (try clear hb2)
         (try clear hk)
         (try clear hi)
         refine hK.out _ _ ⟨(blk_cell BK179.out 0).trans rfl, (blk_cell BK179.out 1).trans rfl, (blk_cell BK179.out 2).trans rfl, (blk_cell BK179.out 3).trans rfl⟩ (fun hHeld => ?_)
         clear hK K
         refine norm_ (a' := ?_) ?_ ?_
         rotate_left
         ·show Act.put _ (some 32) _ = _
          simp only [Act.put, sA_, sZ_, sS_, i64_w, i32_w]
          rfl
         refine pu_ (i := 20) (N := some 33) (v := ?_) (a' := ?_) rfl rfl (any_of HT_.out (by kernel_rfl)) (fun _ _ _ h => h) (Or.inl ⟨by rfl, ?_⟩) ?_ ?_; rotate_left; (· (intro w'; go_simp; with_reducible rfl)); rotate_left; (· (simp only [Act.put, sA_, sZ_, sS_, i64_w, i32_w]; rfl))
         refine pu_ (i := 21) (N := some 34) (v := ?_) (a' := ?_) rfl rfl (any_of HT_.out (by kernel_rfl)) (fun _ _ _ h => h) (Or.inl ⟨by rfl, ?_⟩) ?_ ?_; rotate_left; (· (intro w'; go_simp; with_reducible rfl))
         rotate_left; (· (simp only [Act.put, sA_, sZ_, sS_, i64_w, i32_w]; rfl))
         refine pu_ (i := 22) (N := some 35) (v := ?_) (a' := ?_) rfl rfl (any_of HT_.out (by kernel_rfl)) (fun _ _ _ h => h) (Or.inl ⟨by rfl, ?_⟩) ?_ ?_; rotate_left; (· (intro w'; go_simp; with_reducible rfl)); rotate_left; (· (simp only [Act.put, sA_, sZ_, sS_, i64_w, i32_w]; rfl))
         refine pu_ (i := 23) (N := some 36) (v := undef) (a' := ?_) rfl rfl (any_of HT_.out (by kernel_rfl)) (fun _ _ _ h => h) (Or.inr ⟨by rfl, rfl⟩) ?_ ?_; rotate_left; (· (simp only [Act.put, sA_, sZ_, sS_, i64_w, i32_w]; rfl))
         refine pu_ (i := 24) (N := some 37) (v := undef) (a' := ?_) rfl rfl (any_of HT_.out (by kernel_rfl)) (fun _ _ _ h => h) (Or.inr ⟨by rfl, rfl⟩) ?_ ?_
         rotate_left; (· (simp only [Act.put, sA_, sZ_, sS_, i64_w, i32_w]; rfl))
         refine pu_ (i := 25) (N := some 38) (v := undef) (a' := ?_) rfl rfl (any_of HT_.out (by kernel_rfl)) (fun _ _ _ h => h) (Or.inr ⟨by rfl, rfl⟩) ?_ ?_; rotate_left; (· (simp only [Act.put, sA_, sZ_, sS_, i64_w, i32_w]; rfl))
         refine pu_ (i := 26) (N := some 39) (v := undef) (a' := ?_) rfl rfl (any_of HT_.out (by kernel_rfl)) (fun _ _ _ h => h) (Or.inr ⟨by rfl, rfl⟩) ?_ ?_
         rotate_left; (· (simp only [Act.put, sA_, sZ_, sS_, i64_w, i32_w]; rfl))
         refine pu_ (i := 27) (N := some 40) (v := ?_) (a' := ?_) rfl rfl (any_of HT_.out (by kernel_rfl)) (fun _ _ _ h => h) (Or.inl ⟨by rfl, ?_⟩) ?_ ?_; rotate_left; (· (intro w'; go_simp; with_reducible rfl)); rotate_left; (· (simp only [Act.put, sA_, sZ_, sS_, i64_w, i32_w]; rfl))
         refine pu_ (i := 28) (N := some 41) (v := ?_) (a' := ?_) rfl rfl (any_of HT_.out (by kernel_rfl)) (fun _ _ _ h => h) (Or.inl ⟨by rfl, ?_⟩) ?_ ?_; rotate_left; (· (intro w'; go_simp; with_reducible rfl))
         rotate_left; (· (simp only [Act.put, sA_, sZ_, sS_, i64_w, i32_w]; rfl))
         refine pu_ (i := 29) (N := some 42) (v := undef) (a' := ?_) rfl rfl (any_of HT_.out (by kernel_rfl)) (fun _ _ _ h => h) (Or.inr ⟨by rfl, rfl⟩) ?_ ?_; rotate_left; (· (simp only [Act.put, sA_, sZ_, sS_, i64_w, i32_w]; rfl))
         refine pu_ (i := 30) (N := some 43) (v := undef) (a' := ?_) rfl rfl (any_of HT_.out (by kernel_rfl)) (fun _ _ _ h => h) (Or.inr ⟨by rfl, rfl⟩) ?_ ?_
         rotate_left; (· (simp only [Act.put, sA_, sZ_, sS_, i64_w, i32_w]; rfl))
         refine pu_ (i := 31) (N := some 44) (v := undef) (a' := ?_) rfl rfl (any_of HT_.out (by kernel_rfl)) (fun _ _ _ h => h) (Or.inr ⟨by rfl, rfl⟩) ?_ ?_; rotate_left; (· (simp only [Act.put, sA_, sZ_, sS_, i64_w, i32_w]; rfl))
         refine pu_ (i := 32) (N := some 45) (v := undef) (a' := ?_) rfl rfl (any_of HT_.out (by kernel_rfl)) (fun _ _ _ h => h) (Or.inr ⟨by rfl, rfl⟩) ?_ ?_
         rotate_left; (· (simp only [Act.put, sA_, sZ_, sS_, i64_w, i32_w]; rfl))
         refine pu_ (i := 33) (N := some 46) (v := ?_) (a' := ?_) rfl rfl (any_of HT_.out (by kernel_rfl)) (fun _ _ _ h => h) (Or.inl ⟨by rfl, ?_⟩) ?_ ?_; rotate_left; (· (intro w'; go_simp; with_reducible rfl)); rotate_left; (· (simp only [Act.put, sA_, sZ_, sS_, i64_w, i32_w]; rfl))
         refine pu_ (i := 34) (N := some 47) (v := ?_) (a' := ?_) rfl rfl (any_of HT_.out (by kernel_rfl)) (fun _ _ _ h => h) (Or.inl ⟨by rfl, ?_⟩) ?_ ?_; rotate_left; (· (intro w'; go_simp; with_reducible rfl))
         rotate_left; (· (simp only [Act.put, sA_, sZ_, sS_, i64_w, i32_w]; rfl))
         refine pu_ (i := 35) (N := some 48) (v := undef) (a' := ?_) rfl rfl (any_of HT_.out (by kernel_rfl)) (fun _ _ _ h => h) (Or.inr ⟨by rfl, rfl⟩) ?_ ?_; rotate_left; (· (simp only [Act.put, sA_, sZ_, sS_, i64_w, i32_w]; rfl))
         refine pu_ (i := 36) (N := some 49) (v := undef) (a' := ?_) rfl rfl (any_of HT_.out (by kernel_rfl)) (fun _ _ _ h => h) (Or.inr ⟨by rfl, rfl⟩) ?_ ?_
         rotate_left; (· (simp only [Act.put, sA_, sZ_, sS_, i64_w, i32_w]; rfl))
         refine pu_ (i := 37) (N := some 50) (v := undef) (a' := ?_) rfl rfl (any_of HT_.out (by kernel_rfl)) (fun _ _ _ h => h) (Or.inr ⟨by rfl, rfl⟩) ?_ ?_; rotate_left; (· (simp only [Act.put, sA_, sZ_, sS_, i64_w, i32_w]; rfl))
         refine pu_ (i := 38) (N := some 51) (v := undef) (a' := ?_) rfl rfl (any_of HT_.out (by kernel_rfl)) (fun _ _ _ h => h) (Or.inr ⟨by rfl, rfl⟩) ?_ ?_
         rotate_left; (· (simp only [Act.put, sA_, sZ_, sS_, i64_w, i32_w]; rfl))
         refine pu_ (i := 39) (N := some 52) (v := undef) (a' := ?_) rfl rfl (any_of HT_.out (by kernel_rfl)) (fun _ _ _ h => h) (Or.inr ⟨by rfl, rfl⟩) ?_ ?_; rotate_left; (· (simp only [Act.put, sA_, sZ_, sS_, i64_w, i32_w]; rfl))
         refine pu_ (i := 40) (N := some 53) (v := undef) (a' := ?_) rfl rfl (any_of HT_.out (by kernel_rfl)) (fun _ _ _ h => h) (Or.inr ⟨by rfl, rfl⟩) ?_ ?_
         rotate_left; (· (simp only [Act.put, sA_, sZ_, sS_, i64_w, i32_w]; rfl))
         refine pu_ (i := 41) (N := some 54) (v := undef) (a' := ?_) rfl rfl (any_of HT_.out (by kernel_rfl)) (fun _ _ _ h => h) (Or.inr ⟨by rfl, rfl⟩) ?_ ?_; rotate_left; (· (simp only [Act.put, sA_, sZ_, sS_, i64_w, i32_w]; rfl))
         refine pu_ (i := 42) (N := some 55) (v := undef) (a' := ?_) rfl rfl (any_of HT_.out (by kernel_rfl)) (fun _ _ _ h => h) (Or.inr ⟨by rfl, rfl⟩) ?_ ?_
         rotate_left; (· (simp only [Act.put, sA_, sZ_, sS_, i64_w, i32_w]; rfl))
         refine pu_ (i := 43) (N := some 56) (v := ?_) (a' := ?_) rfl rfl (any_of HT_.out (by kernel_rfl)) (fun _ _ _ h => h) (Or.inl ⟨by rfl, ?_⟩) ?_ ?_; rotate_left; (· (intro w'; go_simp; with_reducible rfl)); rotate_left; (· (simp only [Act.put, sA_, sZ_, sS_, i64_w, i32_w]; rfl))
         refine done_ (done_of HT_.out (by kernel_rfl)) ?_
         try go_wp2
         go_meet
         case rel => exact ⟨_, (true), (by first | rfl | (simp; done) | (simp [*]; done)), H', ⟨by have := HK1.out; first | omega | exact Nat.le_refl _⟩, ⟨by (with_reducible repeat (first | refine blk_drewN ?_ _ | refine blk_drew ?_ | refine blk_alloc ?_ _)); exact BK177.out⟩, ⟨by (with_reducible repeat (first | refine blk_drewN ?_ _ | refine blk_drew ?_ | refine blk_alloc ?_ _)); exact BK179.out⟩, ⟨by repeat (first | (with_reducible first | exact HB.out | apply below_alloc | apply pw_below_drewN | apply below_drew1 | refine below_set ?_ GE177.out | refine below_set ?_ GE179.out) | exact HB.out)⟩⟩
      case rest =>
       clear HC7
       try clear p2
       try clear c4
       try clear c7
       try clear c9
       try clear c41
       obtain ⟨kq, x56_6, rfl, HA, HJ6, BK177, BK179, HB⟩ := hcut
       cases kq with
       | zero => exact absurd HA.out (by simp [impl_CertOk.j1])
       | succ kj6 =>
        have H := HA.out
        clear HA
        simp only [impl_CertOk.j1] at H
        by_cases c62 : x56_6 = true
        ·subst c62
         have H1 : (some false) = some r := by rw [if_pos rfl] at H; exact H
         clear H
         have H := H1
         clear H1
         obtain rfl := Option.some.inj H
         go_wp2
         go_ret
         exact ⟨by first | rfl | (simp [errW_none, errW_some] <;> rfl) | (simp [*, errW_none, errW_some] <;> rfl), by repeat (first | (with_reducible first | exact HB.out | apply below_alloc | apply pw_below_drewN | apply below_drew1 | refine below_set ?_ GE177.out | refine below_set ?_ GE179.out) | exact HB.out)⟩
        ·replace c62 := Bool.eq_false_iff.mpr c62
         subst c62
         have H1 : (impl_CertOk.l0 kj6 l0_2 (l0_2.length : Int) (wrap64 (x8_1 + 1)) a0_0 l0_1 l0_2) = some r := by rw [if_neg (show ¬ (false = true) by decide)] at H; exact H
         clear H
         have H := H1
         clear H1
         have H' := Aside0.mk H
         clear H
         go_wp2
         go_roundg kj6
         case measure => have := HK1.out; have := HJ6.out; omega
         case rel => exact ⟨(wrap64 (x8_1 + 1)), (by first | rfl | (simp; done) | (simp [*]; done)), H', ⟨by have := HK1.out; have := HJ6.out; omega⟩, ⟨by (with_reducible repeat (first | refine blk_drewN ?_ _ | refine blk_drew ?_ | refine blk_alloc ?_ _)); exact BK177.out⟩, ⟨by repeat (first | (with_reducible first | exact HB.out | apply below_alloc | apply pw_below_drewN | apply below_drew1 | refine below_set ?_ GE177.out | refine below_set ?_ GE179.out) | exact HB.out)⟩⟩
     ·rw [if_neg c6] at H
      exact absurd H (by simp)
    ·rw [if_neg c5] at H
     exact absurd H (by simp)
   ·rw [if_neg c4] at H
    have c4b0 : decide (x8_1 < (l0_2.length : Int)) = false := decide_eq_false c4
    clear c4
    replace H := Option.bind_eq_some_iff.mp H
    obtain ⟨t187, A630, H⟩ := H
    replace H : (if t187 = true then ((impl_BoxOk.f k1 l0_1).bind fun t188 => (some t188)) else (some false)) = some r := H
    have A63 := Aside0.mk A630
    clear A630
    by_cases c64 : t187 = true
    ·subst c64
     have H1 : ((impl_BoxOk.f k1 l0_1).bind fun t188 => (some t188)) = some r := by rw [if_pos rfl] at H; exact H
     clear H
     have H := H1
     clear H1
     replace H := Option.bind_eq_some_iff.mp H
     obtain ⟨t188, A650, H⟩ := H
     replace H : (some t188) = some r := H
     have A65 := Aside0.mk A650
     clear A650
     obtain rfl := Option.some.inj H
     have hcz66_0 : wr.cell? ⟨gb177, 0, none⟩ = some (.int .i64 a0_0) := (blk_cell BK177.out 0).trans rfl
     have hcz66_1 : wr.cell? ⟨gb177, 1, none⟩ = some (.slice A0_1 l0_1.length c0_1) := (blk_cell BK177.out 1).trans rfl
     have hcz66_2 : wr.cell? ⟨gb177, 2, none⟩ = some (.slice A0_2 l0_2.length c0_2) := (blk_cell BK177.out 2).trans rfl
     have hfz66_0 := blk_frozen BK177.out 0
     have hfz66_1 := blk_frozen BK177.out 1
     have hfz66_2 := blk_frozen BK177.out 2
     go_wp2_with (first | ((with_reducible refine gate_callee (f := 78) rfl ?_); refine goesL_ (some 60) rfl rfl Try.func78 (by kernel_rfl) rfl #[.int .i64 a0_0, .int .i64 0, .int .i64 40] rfl (by (try simp only [List.map_toArray, List.map_cons, List.map_nil]); first | done | rfl | (simp only [List.length_drop, List.length_take]; rfl)) ?_; (with_reducible refine (impl_in.calls a0_0 0 40 true _ A63.out).mono ?_); rintro e w' ⟨rfl, ⟨nd, rfl⟩⟩; refine ⟨_, rfl, ?_⟩) | (go_at_call 92; (with_reducible refine (impl_BoxOk.calls k1 _ _ l0_1 t188 _ ?side1 ?side2 A65.out).mono ?_); (case side1 => repeat (first | exact (Kd.C_below HR0_1.out (by repeat (first | (with_reducible first | exact HB.out | apply below_alloc | apply pw_below_drewN | apply below_drew1 | refine below_set ?_ GE177.out) | exact HB.out))) | (with_reducible refine Kd.C_alloc ?_ _) | (with_reducible refine Kd.C_drewN ?_ _) | (with_reducible refine Kd.C_drew ?_))); (case side2 => exact HC0_1.out); rintro e w67 ⟨rfl, hb⟩; have n0_ := Aside0.mk (blk_below (g := gb177) (o := .cells #[.int .i64 a0_0, .slice A0_1 l0_1.length c0_1, .slice A0_2 l0_2.length c0_2] 25 (0, 0)) (by (with_reducible repeat (first | refine blk_drewN ?_ _ | refine blk_drew ?_ | refine blk_alloc ?_ _)); exact BK177.out) hb); have n1_ := Aside0.mk (below_step (by repeat (first | (with_reducible first | exact HB.out | apply below_alloc | apply pw_below_drewN | apply below_drew1 | refine below_set ?_ GE177.out) | exact HB.out)) hb); clear BK177; clear HB; have BK177 := n0_; have HB := n1_; clear n0_ n1_; (try clear hb); (try clear hb2); (try clear hk); (try clear hi); (try clear A65)))
     go_ret
     exact ⟨by first | rfl | (simp [errW_none, errW_some] <;> rfl) | (simp [*, errW_none, errW_some] <;> rfl), by repeat (first | (with_reducible first | exact HB.out | apply below_alloc | apply pw_below_drewN | apply below_drew1 | refine below_set ?_ GE177.out) | exact HB.out)⟩
    ·replace c64 := Bool.eq_false_iff.mpr c64
     subst c64
     have H1 : (some false) = some r := by rw [if_neg (show ¬ (false = true) by decide)] at H; exact H
     clear H
     have H := H1
     clear H1
     obtain rfl := Option.some.inj H
     have hcz68_0 : wr.cell? ⟨gb177, 0, none⟩ = some (.int .i64 a0_0) := (blk_cell BK177.out 0).trans rfl
     have hcz68_1 : wr.cell? ⟨gb177, 1, none⟩ = some (.slice A0_1 l0_1.length c0_1) := (blk_cell BK177.out 1).trans rfl
     have hcz68_2 : wr.cell? ⟨gb177, 2, none⟩ = some (.slice A0_2 l0_2.length c0_2) := (blk_cell BK177.out 2).trans rfl
     have hfz68_0 := blk_frozen BK177.out 0
     have hfz68_1 := blk_frozen BK177.out 1
     have hfz68_2 := blk_frozen BK177.out 2
     go_wp2_with (first | ((with_reducible refine gate_callee (f := 78) rfl ?_); refine goesL_ (some 60) rfl rfl Try.func78 (by kernel_rfl) rfl #[.int .i64 a0_0, .int .i64 0, .int .i64 40] rfl (by (try simp only [List.map_toArray, List.map_cons, List.map_nil]); first | done | rfl | (simp only [List.length_drop, List.length_take]; rfl)) ?_; (with_reducible refine (impl_in.calls a0_0 0 40 false _ A63.out).mono ?_); rintro e w' ⟨rfl, ⟨nd, rfl⟩⟩; refine ⟨_, rfl, ?_⟩))
     go_ret
     exact ⟨by first | rfl | (simp [errW_none, errW_some] <;> rfl) | (simp [*, errW_none, errW_some] <;> rfl), by repeat (first | (with_reducible first | exact HB.out | apply below_alloc | apply pw_below_drewN | apply below_drew1 | refine below_set ?_ GE177.out) | exact HB.out)⟩

end Go.Proofs.Ytbocpmlppkdhmaa.PFnExactCertOk

-- Laid by this session's program out of the translation (gen.sh).
import Derived.Test.YtgdafcakefnpdaaPFnExecDox0
namespace Go.Proofs.Ytgdafcakefnpdaa.PFnExecDo
open Go.RowKit Go.Proofs.YtgdafcakefnpdaaW.PrintWords Go.Proofs.YtgdafcakefnpdaaW.PrintLast Go.Proofs.YtgdafcakefnpdaaW.PrintMore
attribute [local go_sem] max2_int min2_int max_two min_two max_three min_three max_four min_four   -- for this text's walks alone
set_option linter.unusedVariables false
set_option linter.unusedSimpArgs false

/-- A state of type 110 at block g of W; what its slices lead to came in by w0. -/
def IsS110 (w0 W : World) (g : Nat) (f0 : List Int) (f1 : Int) : Prop := ∃ A0 c0, W.heap[g]? = some (.cells #[.slice A0 f0.length c0, .int .i64 f1] 110 (0, 0)) ∧ w0.heap.size ≤ g ∧ Kd.C (Kd.int .u8) w0 A0 f0.length f0
theorem IsS110.grown {w0 W : World} {g : Nat} {f0 : List Int} {f1 : Int} {W1 : World} {bQ : Option Nat} (h : IsS110 w0 W g f0 f1) (hw : W.grownBy W1 bQ) (bB : some g ≠ bQ) : IsS110 w0 W1 g f0 f1 := by
 obtain ⟨A0, c0, hb, hg, Y0⟩ := h
 exact ⟨A0, c0, blk_grown hb hw bB, hg, Y0⟩
theorem IsS110.own_neN {w0 W : World} {g : Nat} {f0 : List Int} {f1 : Int} {α : Type} {d : Kd α} {e : Nat} {aI : Nat} {ok : Nat → Prop} {v : Value} {xs : List α} (h : IsS110 w0 W g f0 f1) (ho : Kd.N d e W aI ok v xs) (ht : e ≠ 110) : some g ≠ v.ownBlock := by
 obtain ⟨A0, c0, hb, hg, Y0⟩ := h
 exact Kd.N_ne ho hb ht
theorem IsS110.fresh {w0 W : World} {g : Nat} {f0 : List Int} {f1 : Int} (h : IsS110 w0 W g f0 f1) : ∀ k, W.heap.size ≤ k → k ≠ g := by
 obtain ⟨A0, c0, hb, hg, Y0⟩ := h
 exact Kd.freshB hb
theorem IsS110.kept {w0 W : World} {g : Nat} {f0 : List Int} {f1 : Int} {W1 : World} {S : Nat → Prop} (h : IsS110 w0 W g f0 f1) (hk : Kept W W1 S) (bB : ¬ S g) : IsS110 w0 W1 g f0 f1 := by
 obtain ⟨A0, c0, hb, hg, Y0⟩ := h
 exact ⟨A0, c0, blk_kept hb hk bB, hg, Y0⟩
theorem IsS110.below {w0 W : World} {g : Nat} {f0 : List Int} {f1 : Int} {W1 : World} (h : IsS110 w0 W g f0 f1) (hw : Below W.heap.size W W1) : IsS110 w0 W1 g f0 f1 := h.grown (grown_of_below hw none) (by simp)
theorem IsS110.alloc {w0 W : World} {g : Nat} {f0 : List Int} {f1 : Int} (h : IsS110 w0 W g f0 f1) (o : Obj) : IsS110 w0 (W.alloc o) g f0 f1 := h.below (below_alloc (Below.refl _ _) o)
theorem IsS110.drewN {w0 W : World} {g : Nat} {f0 : List Int} {f1 : Int} (h : IsS110 w0 W g f0 f1) (m : Nat) : IsS110 w0 (W.drewN m) g f0 f1 := h
theorem IsS110.drew {w0 W : World} {g : Nat} {f0 : List Int} {f1 : Int} (h : IsS110 w0 W g f0 f1) : IsS110 w0 W.drew g f0 f1 := h
theorem IsS110.at_ {w0 W : World} {g : Nat} {f0 : List Int} {f1 : Int} {w' : World} {m : Nat} (hq : W.drewN m = w') (h : IsS110 w0 W g f0 f1) : IsS110 w0 w' g f0 f1 := by subst hq; exact IsS110.drewN h m
theorem IsS110.apart {w0 W : World} {g : Nat} {f0 : List Int} {f1 : Int} {α : Type} {d : Kd α} {e : Nat} {aI : Nat} {ok : Nat → Prop} {v : Value} {xs : List α} (h : IsS110 w0 W g f0 f1) (ho : d.R e W aI ok v xs) (ht : ∀ q, q ∈ e :: d.E → q ≠ 110) : d.R e W aI (fun k => ok k ∧ k ≠ g) v xs := by
 obtain ⟨A0, c0, hb, hg, Y0⟩ := h
 exact Kd.R_types ho hb ht
theorem IsS110.own_ne {w0 W : World} {g : Nat} {f0 : List Int} {f1 : Int} {α : Type} {d : Kd α} {e : Nat} {aI : Nat} {ok : Nat → Prop} {v : Value} {xs : List α} (h : IsS110 w0 W g f0 f1) (ho : d.R e W aI ok v xs) (ht : e ≠ 110) : some g ≠ v.ownBlock := by
 obtain ⟨A0, c0, hb, hg, Y0⟩ := h
 exact Kd.R_ne ho hb ht
theorem IsS110.apartQ {w0 W : World} {g : Nat} {f0 : List Int} {f1 : Int} {α : Type} {d : Kd α} {e : Nat} {aI : Nat} {ok : Nat → Prop} {v : Value} {xs : List α} (h : IsS110 w0 W g f0 f1) (ho : d.Q e W aI ok v xs) (ht : ∀ q, q ∈ e :: d.E → q ≠ 110) : d.Q e W aI (fun k => ok k ∧ k ≠ g) v xs := by
 obtain ⟨A0, c0, hb, hg, Y0⟩ := h
 exact Kd.Q_types ho hb ht
theorem IsS110.own_neQ {w0 W : World} {g : Nat} {f0 : List Int} {f1 : Int} {α : Type} {d : Kd α} {e : Nat} {aI : Nat} {ok : Nat → Prop} {v : Value} {xs : List α} (h : IsS110 w0 W g f0 f1) (ho : d.Q e W aI ok v xs) (ht : e ≠ 110) : some g ≠ v.ownBlock := by
 obtain ⟨A0, c0, hb, hg, Y0⟩ := h
 exact Kd.Q_ne ho hb ht
theorem IsS110.apartS {w0 W : World} {g : Nat} {f0 : List Int} {f1 : Int} {α : Type} {d : Kd α} {e : Nat} {aI : Nat} {ok : Nat → Prop} {v : Value} {xs : List α} (h : IsS110 w0 W g f0 f1) (ho : d.S e W aI ok v xs) (ht : ∀ q, q ∈ e :: d.E → q ≠ 110) : d.S e W aI (fun k => ok k ∧ k ≠ g) v xs := by
 obtain ⟨A0, c0, hb, hg, Y0⟩ := h
 exact Kd.S_types ho hb ht
theorem IsS110.own_neS {w0 W : World} {g : Nat} {f0 : List Int} {f1 : Int} {α : Type} {d : Kd α} {e : Nat} {aI : Nat} {ok : Nat → Prop} {v : Value} {xs : List α} (h : IsS110 w0 W g f0 f1) (ho : d.S e W aI ok v xs) (ht : e ≠ 110) : some g ≠ v.ownBlock := by
 obtain ⟨A0, c0, hb, hg, Y0⟩ := h
 exact Kd.S_ne ho hb ht
theorem IsS110.lt {w0 W : World} {g : Nat} {f0 : List Int} {f1 : Int} (h : IsS110 w0 W g f0 f1) : g < W.heap.size := by
 obtain ⟨A0, c0, hb, hg, Y0⟩ := h
 exact blk_lt hb
theorem IsS110.ge {w0 W : World} {g : Nat} {f0 : List Int} {f1 : Int} (h : IsS110 w0 W g f0 f1) : w0.heap.size ≤ g := by
 obtain ⟨A0, c0, hb, hg, Y0⟩ := h
 exact hg
theorem IsS110.ne_blk {w0 W : World} {g : Nat} {f0 : List Int} {f1 : Int} {a : Nat} {cs : Array Value} {t : TypeId} {fr : Nat × Nat} (h : IsS110 w0 W g f0 f1) (bh0 : W.heap[a]? = some (.cells cs t fr)) (ht : t ≠ 110) : g ≠ a := by
 obtain ⟨A0, c0, hb, hg, Y0⟩ := h
 rintro rfl
 rw [hb] at bh0
 injection bh0 with bh0
 injection bh0 with _ cb0
 exact ht cb0.symm
theorem IsS110.far {w0 W : World} {g : Nat} {f0 : List Int} {f1 : Int} {p : Addr} (h : IsS110 w0 W g f0 f1) (bB : g ≠ p.block) (u : Value) : IsS110 w0 (W.setCell p u) g f0 f1 := by
 obtain ⟨A0, c0, hb, hg, Y0⟩ := h
 exact ⟨A0, c0, blk_far hb bB u, hg, Y0⟩
theorem cellS110_0 {W : World} {g : Nat} {A0 : Option Addr} {c0 : Nat} {f0 : List Int} {f1 : Int} (h : W.heap[g]? = some (.cells #[.slice A0 f0.length c0, .int .i64 f1] 110 (0, 0))) : W.cell? ⟨g, 0, none⟩ = some (.slice A0 f0.length c0) := (blk_cell h 0).trans rfl
theorem cellS110_1 {W : World} {g : Nat} {A0 : Option Addr} {c0 : Nat} {f0 : List Int} {f1 : Int} (h : W.heap[g]? = some (.cells #[.slice A0 f0.length c0, .int .i64 f1] 110 (0, 0))) : W.cell? ⟨g, 1, none⟩ = some (.int .i64 f1) := (blk_cell h 1).trans rfl
theorem IsS110.set_1 {w0 W : World} {g : Nat} {f0 : List Int} {f1 : Int} (h : IsS110 w0 W g f0 f1) (x : Int) : IsS110 w0 (W.setCell ⟨g, 1, none⟩ (.int .i64 x)) g f0 x := by
 obtain ⟨A0, c0, hb, hg, Y0⟩ := h
 exact ⟨A0, c0, by simpa using blk_set hb 1 (.int .i64 x), hg, Y0⟩
theorem IsS110.new (w0 W : World) (A0 : Option Addr) (c0 : Nat) (f0 : List Int) (f1 : Int) (hB : Below w0.heap.size w0 W) (hr0 : Kd.C (Kd.int .u8) w0 A0 f0.length f0) : IsS110 w0 (W.alloc (.cells #[.slice A0 f0.length c0, .int .i64 f1] 110)) W.heap.size f0 f1 := ⟨A0, c0, by simpa using heap_alloc_new W _, hB.size, hr0⟩

/-! ### spec_l15Open: function 57 -/
def spec_l15Open.f (l0 : List Int) : Option (List Int × Int) := if (l0.length : Int) > 2000 then (if 2000 ≤ (l0.length : Int) then (some (l0.take 2000, 0)) else (none)) else (some (l0, 0))
set_option maxHeartbeats 8000000 in
set_option maxRecDepth 100000 in
theorem spec_l15Open.calls (A0 : Option Addr) (c0 : Nat) (l0 : List Int) (r1 : List Int) (r2 : Int) (w0 w : World) (hB : Below w0.heap.size w0 w) (Y0 : Kd.C (Kd.int .u8) w0 A0 l0.length l0) (ad0 : l0.length ≤ c0) (h : spec_l15Open.f l0 = some (r1, r2)) :
  Calls Try.prog 57 #[.slice A0 l0.length c0] w fun e w' => ∃ g_ : Nat, e = .returned (.pointer (some ⟨g_, 0, none⟩)) ∧ IsS110 w0 w' g_ r1 r2 ∧ Below w0.heap.size w0 w' ∧ Below w.heap.size w w' := by
 have aB0 := Try.underlying110; have V0 := Aside0.mk Y0; have X0 := Aside0.mk ad0; clear Y0 ad0; have aV := Aside0.mk (Below.refl w.heap.size w); have aE0 := Aside0.mk hB.size; have HB := Aside0.mk hB; clear hB; have H : (if (l0.length : Int) > 2000 then (if 2000 ≤ (l0.length : Int) then (some (l0.take 2000, 0)) else (none)) else (some (l0, 0))) = some (r1, r2) := h; clear h; by_cases c2 : (l0.length : Int) > 2000
 ·rw [if_pos c2] at H; have u0 : decide (2000 < (l0.length : Int)) = true := decide_eq_true c2; have u1 : decide (2000 < l0.length) = true := decide_eq_true (by omega); clear c2; replace H := ifp_ H; obtain ⟨c3, H⟩ := H; have u2 := eq_true c3; have u3 : decide (2000 ≤ (l0.length : Int)) = true := decide_eq_true c3; clear c3; simp only [Option.some.injEq, Prod.mk.injEq] at H; obtain ⟨rfl, rfl⟩ := H; obtain ⟨bA0, aU0, _, ba0, _⟩ := info_parts info5; obtain ⟨bj0, bC0, bb0⟩ := print_take_of (P := Try.prog) (Value.int .u8) 0 22 5 .i64 Try.underlying22 aU0 ba0 A0 c0 l0 2000 (by omega) (of_decide_eq_true zq41_) X0.out; have V1 := Aside0.mk (Kd.C_of_reads (h1 := fun _ => rfl) (bC0 _ (Kd.reads_of_C V0.out))); have X1 := Aside0.mk bb0; clear bC0 bb0 aU0 ba0
  go_enter Try.func57, Try.ntmps57
  go_wp2_with (first | ((with_reducible refine gate_dst (N := 10) rfl ?_); refine bxe_ (N := 10) (cs := #[.slice A0 (l0.take 2000).length c0, .int .i64 0]) (t := 110) ?_; intro c1 hg w5 H_ hb; have n_ := A5_ (below_step aV.out hb) (below_step zq59_ hb) (H_) ((by rw [hg]; exact (below_size zq64_) : w.heap.size ≤ c1)) ((Nat.le_trans aE0.out (by rw [hg]; exact (below_size zq64_) : w.heap.size ≤ c1) : w0.heap.size ≤ c1)); clear aV HB; obtain ⟨aV, HB, b0, y0, p0⟩ := n_; clear hb H_ hg))
  go_ret
  exact ⟨_, rfl, (show IsS110 w0 _ c1 (l0.take 2000) 0 from ⟨_, _, zq1c_, p0.out, V1.out⟩), zq58_, zq63_⟩
 ·rw [if_neg c2] at H; have u0 : decide (2000 < (l0.length : Int)) = false := decide_eq_false c2; have u1 : decide (2000 < l0.length) = false := decide_eq_false (by omega); clear c2; simp only [Option.some.injEq, Prod.mk.injEq] at H; obtain ⟨rfl, rfl⟩ := H
  go_enter Try.func57, Try.ntmps57
  go_wp2_with (first | ((with_reducible refine gate_dst (N := 10) rfl ?_); refine bxe_ (N := 10) (cs := #[.slice A0 l0.length c0, .int .i64 0]) (t := 110) ?_; intro c1 hg w6 H_ hb; have n_ := A5_ (below_step aV.out hb) (below_step zq59_ hb) (H_) ((by rw [hg]; exact (below_size zq64_) : w.heap.size ≤ c1)) ((Nat.le_trans aE0.out (by rw [hg]; exact (below_size zq64_) : w.heap.size ≤ c1) : w0.heap.size ≤ c1)); clear aV HB; obtain ⟨aV, HB, b0, y0, p0⟩ := n_; clear hb H_ hg))
  go_ret
  exact ⟨_, rfl, (show IsS110 w0 _ c1 l0 0 from ⟨_, _, zq1c_, p0.out, V0.out⟩), zq58_, zq63_⟩

/-! ### spec_l1Num: function 74 -/
def spec_l1Num.f (a0 : Int) : Option (Bool) := if a0 ≥ (-1000000) then (some (decide (a0 ≤ 1000000))) else (some false)
set_option maxHeartbeats 8000000 in
set_option maxRecDepth 100000 in
theorem spec_l1Num.calls (a0 : Int) (r : Bool) (w : World) (h : spec_l1Num.f a0 = some r) :
  Calls Try.prog 74 #[.int .i64 a0] w fun e w' => e = .returned (.bool r) ∧ Drawn0 w w' := by
 have H : (if a0 ≥ (-1000000) then (some (decide (a0 ≤ 1000000))) else (some false)) = some r := h; clear h; replace H := ifc_ H
 rcases H with ⟨c2b0, H⟩ | ⟨c2b0, H⟩
 ·change decide ((-1000000) ≤ a0) = true at c2b0; obtain rfl := Option.some.inj H
  go_enter Try.func74, Try.ntmps74
  go_wp2
  go_ret
  exact ⟨zq46_, zq79_⟩
 ·change decide ((-1000000) ≤ a0) = false at c2b0; obtain rfl := Option.some.inj H
  go_enter Try.func74, Try.ntmps74
  go_wp2
  go_ret
  exact ⟨zq46_, zq79_⟩

/-! ### spec_BoxOk: function 24 -/
def spec_BoxOk.l0 : Nat → List (S46) → Int → Option (Bool)
 | 0, _, _ => none
 | k + 1, x0, x3 => if x3 < (x0.length : Int) then (if 0 ≤ x3 then (if ((rd_T46 x0 x3).f0) < 0 then (some false) else (if ((rd_T46 x0 x3).f0) > 1000000 then (some false) else ((spec_l1Num.f ((rd_T46 x0 x3).f1)).bind fun t107 => (if t107 = true then (spec_BoxOk.l0 k x0 (wrap64 (x3 + 1))) else (some false))))) else (none)) else (some true)
def spec_BoxOk.f (k : Nat) (l0 : List (S46)) : Option (Bool) := if (l0.length : Int) = 4 then (spec_BoxOk.l0 k l0 0) else (some false)
theorem spec_BoxOk.mono_l : ∀ k, (∀ y0 y1, LeO (spec_BoxOk.l0 k y0 y1) (spec_BoxOk.l0 (k + 1) y0 y1))
 | 0 => fun _ _ r h => by simp [spec_BoxOk.l0] at h
 | k + 1 => by
  have J0 := spec_BoxOk.mono_l k
  ·intro y0 y1
   unfold spec_BoxOk.l0
   repeat' first
   | (with_reducible exact J0 _ _)
   | (with_reducible exact LeO.refl _)
   | (with_reducible exact LeO.none _)
   | (with_reducible refine LeO.ite ?_ ?_)
   | (with_reducible refine LeO.bind ?_ (fun _ => ?_))
   | exact J0 _ _
   | exact LeO.none _
   | refine LeO.ite ?_ ?_
   | refine LeO.bind ?_ (fun _ => ?_)
theorem spec_BoxOk.mono : ∀ a0 k, LeO (spec_BoxOk.f k a0) (spec_BoxOk.f (k + 1) a0) := by
 intro a0 k
 have J0 := spec_BoxOk.mono_l k
 unfold spec_BoxOk.f
 repeat' first
   | (with_reducible exact J0 _ _)
   | (with_reducible exact LeO.refl _)
   | (with_reducible exact LeO.none _)
   | (with_reducible refine LeO.ite ?_ ?_)
   | (with_reducible refine LeO.bind ?_ (fun _ => ?_))
   | exact J0 _ _
   | exact LeO.none _
   | refine LeO.ite ?_ ?_
   | refine LeO.bind ?_ (fun _ => ?_)
set_option maxHeartbeats 8000000 in
set_option maxRecDepth 100000 in
theorem spec_BoxOk.calls (k : Nat) (A0 : Option Addr) (c0 : Nat) (l0 : List (S46)) (r : Bool) (w : World) (Y0 : Kd.C k46 w A0 l0.length l0) (ad0 : l0.length ≤ c0) (h : spec_BoxOk.f k l0 = some r) :
  Calls Try.prog 24 #[.slice A0 l0.length c0] w fun e w' => e = .returned (.bool r) ∧ Drawn0 w w' := by
 have V0 := Aside0.mk Y0; have X0 := Aside0.mk ad0; clear Y0 ad0; have H : (if (l0.length : Int) = 4 then (spec_BoxOk.l0 k l0 0) else (some false)) = some r := h; clear h; by_cases c2 : (l0.length : Int) = 4
 ·rw [if_pos c2] at H; have u0 : ((l0.length : Int) == 4) = true := beq_iff_eq.mpr c2; have u1 : ((l0.length : Int) != 4) = false := bne_eq_false_iff_eq.mpr c2; clear c2; have H' := Aside0.mk H; clear H
  go_enter Try.func24, Try.ntmps24
  go_wp2
  go_loopg [3] k (fun kq v3 w' => ∃ (e0 : Int), v3 = .int .i64 e0 ∧ Aside0 (spec_BoxOk.l0 kq l0 e0 = some r) ∧ Aside0 (kq ≤ k) ∧ Drawn0 w w')
  case atStart => exact ⟨(0), zq46_, H', ⟨Nat.le_refl _⟩, zq79_⟩
  case round =>
   clear H'
   try clear c2
   try clear u0
   try clear u1
   try clear p2
   obtain ⟨e0, rfl, HA, Z0, ⟨m1, rfl⟩⟩ := hrel
   cases gk with
   | zero => exact absurd HA.out (by simp [spec_BoxOk.l0])
   | succ k1 =>
    have H := HA.out; clear HA; simp only [spec_BoxOk.l0] at H; replace H := ifc_ H
    rcases H with ⟨c3b0, H⟩ | ⟨c3b0, H⟩
    ·replace H := ifd_ H; obtain ⟨u2, H⟩ := H; replace H := ifc_ H
     rcases H with ⟨c5b0, H⟩ | ⟨c5b0, H⟩
     ·obtain rfl := Option.some.inj H; have t0 : 0 ≤ (e0 : Int) := of_decide_eq_true zq41_; have s0 : e0 < (l0.length : Int) := of_decide_eq_true zq41_; obtain ⟨v0, M0, n0, n1⟩ := at_T46 V0.out e0 t0 s0; cases M0; replace t0 := eq_true t0; replace s0 := eq_true s0
      go_wp2
      go_ret
      exact ⟨zq46_, zq79_⟩
     ·replace H := ifc_ H
      rcases H with ⟨c6b0, H⟩ | ⟨c6b0, H⟩
      ·change decide (1000000 < ((rd_T46 l0 e0).f0)) = true at c6b0; obtain rfl := Option.some.inj H; have t0 : 0 ≤ (e0 : Int) := of_decide_eq_true zq41_; have s0 : e0 < (l0.length : Int) := of_decide_eq_true zq41_; obtain ⟨v0, M0, n0, n1⟩ := at_T46 V0.out e0 t0 s0; cases M0; replace t0 := eq_true t0; replace s0 := eq_true s0; have t1 : 0 ≤ (e0 : Int) := of_decide_eq_true zq41_; have s1 : e0 < (l0.length : Int) := of_decide_eq_true zq41_; obtain ⟨v1, M1, n2, n3⟩ := at_T46 V0.out e0 t1 s1; obtain rfl : v0 = v1 := (by injection M1); replace t1 := eq_true t1; replace s1 := eq_true s1
       go_wp2
       go_ret
       exact ⟨zq46_, zq79_⟩
      ·change decide (1000000 < ((rd_T46 l0 e0).f0)) = false at c6b0; replace H := bs_ H; obtain ⟨a0, A7, H⟩ := H; (try dsimp only at H); replace H := ifB_ H
       rcases H with ⟨rfl, H⟩ | ⟨rfl, H⟩
       ·have H' := Aside0.mk H; clear H; have t0 : 0 ≤ (e0 : Int) := of_decide_eq_true zq41_; have s0 : e0 < (l0.length : Int) := of_decide_eq_true zq41_; obtain ⟨v0, M0, n0, n1⟩ := at_T46 V0.out e0 t0 s0; cases M0; replace t0 := eq_true t0; replace s0 := eq_true s0; have t1 : 0 ≤ (e0 : Int) := of_decide_eq_true zq41_; have s1 : e0 < (l0.length : Int) := of_decide_eq_true zq41_; obtain ⟨v1, M1, n2, n3⟩ := at_T46 V0.out e0 t1 s1; obtain rfl : v0 = v1 := (by injection M1); replace t1 := eq_true t1; replace s1 := eq_true s1; have t2 : 0 ≤ (e0 : Int) := of_decide_eq_true zq41_; have s2 : e0 < (l0.length : Int) := of_decide_eq_true zq41_; obtain ⟨v2, M2, n4, n5⟩ := at_T46 V0.out e0 t2 s2; obtain rfl : v0 = v2 := (by injection M2); replace t2 := eq_true t2; replace s2 := eq_true s2
        go_wp2_with (first | (go_at_call 74; (with_reducible refine (spec_l1Num.calls ((rd_T46 l0 e0).f1) true _ A7.out).mono ?_); rintro e w' ⟨rfl, ⟨nd, rfl⟩⟩; (try clear A7)))
        go_roundg k1
        case measure => have := Z0.out; omega
        case rel => exact ⟨(wrap64 (e0 + 1)), zq46_, H', ⟨by have := Z0.out; omega⟩, zq79_⟩
       ·obtain rfl := Option.some.inj H; have t0 : 0 ≤ (e0 : Int) := of_decide_eq_true zq41_; have s0 : e0 < (l0.length : Int) := of_decide_eq_true zq41_; obtain ⟨v0, M0, n0, n1⟩ := at_T46 V0.out e0 t0 s0; cases M0; replace t0 := eq_true t0; replace s0 := eq_true s0; have t1 : 0 ≤ (e0 : Int) := of_decide_eq_true zq41_; have s1 : e0 < (l0.length : Int) := of_decide_eq_true zq41_; obtain ⟨v1, M1, n2, n3⟩ := at_T46 V0.out e0 t1 s1; obtain rfl : v0 = v1 := (by injection M1); replace t1 := eq_true t1; replace s1 := eq_true s1; have t2 : 0 ≤ (e0 : Int) := of_decide_eq_true zq41_; have s2 : e0 < (l0.length : Int) := of_decide_eq_true zq41_; obtain ⟨v2, M2, n4, n5⟩ := at_T46 V0.out e0 t2 s2; obtain rfl : v0 = v2 := (by injection M2); replace t2 := eq_true t2; replace s2 := eq_true s2
        go_wp2_with (first | (go_at_call 74; (with_reducible refine (spec_l1Num.calls ((rd_T46 l0 e0).f1) false _ A7.out).mono ?_); rintro e w' ⟨rfl, ⟨nd, rfl⟩⟩; (try clear A7)))
        go_ret
        exact ⟨zq46_, zq79_⟩
    ·obtain rfl := Option.some.inj H
     go_wp2
     go_ret
     exact ⟨zq46_, zq79_⟩
 ·rw [if_neg c2] at H; have u0 : ((l0.length : Int) == 4) = false := beq_eq_false_iff_ne.mpr c2; have u1 : ((l0.length : Int) != 4) = true := bne_iff_ne.mpr c2; obtain rfl := Option.some.inj H
  go_enter Try.func24, Try.ntmps24
  go_wp2
  go_ret
  exact ⟨zq46_, zq79_⟩

/-! ### spec_l2Box: function 75 -/
def spec_l2Box.f (a0 : Int) : Option (Bool) := if a0 ≥ 0 then (some (decide (a0 < 4))) else (some false)
set_option maxHeartbeats 8000000 in
set_option maxRecDepth 100000 in
theorem spec_l2Box.calls (a0 : Int) (r : Bool) (w : World) (h : spec_l2Box.f a0 = some r) :
  Calls Try.prog 75 #[.int .i64 a0] w fun e w' => e = .returned (.bool r) ∧ Drawn0 w w' := by
 have H : (if a0 ≥ 0 then (some (decide (a0 < 4))) else (some false)) = some r := h; clear h; replace H := ifc_ H
 rcases H with ⟨c2b0, H⟩ | ⟨c2b0, H⟩
 ·change decide (0 ≤ a0) = true at c2b0; obtain rfl := Option.some.inj H
  go_enter Try.func75, Try.ntmps75
  go_wp2
  go_ret
  exact ⟨zq46_, zq79_⟩
 ·change decide (0 ≤ a0) = false at c2b0; obtain rfl := Option.some.inj H
  go_enter Try.func75, Try.ntmps75
  go_wp2
  go_ret
  exact ⟨zq46_, zq79_⟩

/-! ### spec_l2Reg: function 103 -/
def spec_l2Reg.f (a0 : Int) : Option (Bool) := if a0 ≥ 0 then (some (decide (a0 < 4))) else (some false)
set_option maxHeartbeats 8000000 in
set_option maxRecDepth 100000 in
theorem spec_l2Reg.calls (a0 : Int) (r : Bool) (w : World) (h : spec_l2Reg.f a0 = some r) :
  Calls Try.prog 103 #[.int .i64 a0] w fun e w' => e = .returned (.bool r) ∧ Drawn0 w w' := by
 have H : (if a0 ≥ 0 then (some (decide (a0 < 4))) else (some false)) = some r := h; clear h; replace H := ifc_ H
 rcases H with ⟨c2b0, H⟩ | ⟨c2b0, H⟩
 ·change decide (0 ≤ a0) = true at c2b0; obtain rfl := Option.some.inj H
  go_enter Try.func103, Try.ntmps103
  go_wp2
  go_ret
  exact ⟨zq46_, zq79_⟩
 ·change decide (0 ≤ a0) = false at c2b0; obtain rfl := Option.some.inj H
  go_enter Try.func103, Try.ntmps103
  go_wp2
  go_ret
  exact ⟨zq46_, zq79_⟩

end Go.Proofs.Ytgdafcakefnpdaa.PFnExecDo

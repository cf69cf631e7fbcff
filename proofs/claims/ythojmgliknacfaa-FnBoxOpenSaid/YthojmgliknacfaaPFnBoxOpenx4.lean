-- Laid by this session's program out of the translation (gen.sh).
import Derived.Test.YthojmgliknacfaaPFnBoxOpenx0
import Derived.Test.YthojmgliknacfaaPFnBoxOpenx2
import Derived.Test.YthojmgliknacfaaPFnBoxOpenx3
namespace Go.Proofs.Ythojmgliknacfaa.PFnBoxOpen
open Go.RowKit Go.Proofs.YthojmgliknacfaaW.PrintWords Go.Proofs.YthojmgliknacfaaW.PrintLast Go.Proofs.YthojmgliknacfaaW.PrintMore
attribute [local go_sem] max2_int min2_int max_two min_two max_three min_three max_four min_four   -- for this text's walks alone
set_option linter.unusedVariables false
set_option linter.unusedSimpArgs false

/-! ### laws_FnBoxOpen: function 9 -/
def laws_FnBoxOpen.l0 : Nat → List (S44) → Int → Option (Bool)
  | 0, _, _ => none
  | k + 1, x3, x5 => if x5 < (x3.length : Int) then ((some (([] : List (S44)) : List (S44))).bind fun y179 => (if y179.length + x3.length < 8796093022208 then ((some (y179 ++ x3 : List (S44))).bind fun y182 => (if 0 ≤ x5 then (if x5 < (y182.length : Int) then ((some (y182.set (x5 : Int).toNat (⟨(rd_T44 y182 x5).f0, 1000001⟩ : S44) : List (S44))).bind fun y185 => ((some (([] : List (S44)) : List (S44))).bind fun y186 => (if y186.length + x3.length < 8796093022208 then ((some (y186 ++ x3 : List (S44))).bind fun y189 => (if x5 < (y189.length : Int) then ((impl_BoxOk.f k y185).bind fun t193 => (if t193 = true then (some false) else ((impl_BoxOk.f k (y189.set (x5 : Int).toNat (⟨(-1), (rd_T44 y189 x5).f1⟩ : S44))).bind fun t194 => (if t194 = true then (some false) else ((impl_BoxSame.f k y185 x3).bind fun t195 => (if t195 = true then (some false) else (laws_FnBoxOpen.l0 k x3 (wrap64 (x5 + 1))))))))) else (none))) else (none)))) else (none)) else (none))) else (none))) else (some true)
def laws_FnBoxOpen.f (k : Nat) (l0 : List Int) : Option (Bool) := if (l0.length : Int) > 1048576 then (some true) else ((spec_DrawBoxOk.f k l0).bind fun t166 => ((impl_BoxOpen.f).bind fun t169 => (if (t169.length : Int) = 4 then ((impl_BoxOk.f k t166).bind fun t172 => ((spec_BoxOk.f k t166).bind fun t173 => (if (t172 != t173) = true then (some false) else ((spec_BoxOpen.f).bind fun t174 => ((impl_BoxSame.f k t169 t174).bind fun t177 => (if t177 = true then ((spec_BoxOk.f k t166).bind fun t178 => (if t178 = true then (laws_FnBoxOpen.l0 k t166 0) else (some true))) else (some false))))))) else (some false))))
theorem laws_FnBoxOpen.mono_l : ∀ k, (∀ y0 y1, LeO (laws_FnBoxOpen.l0 k y0 y1) (laws_FnBoxOpen.l0 (k + 1) y0 y1))
  | 0 => fun _ _ r h => by simp [laws_FnBoxOpen.l0] at h
  | k + 1 => by
    have ih0 := laws_FnBoxOpen.mono_l k
    · intro y0 y1
      unfold laws_FnBoxOpen.l0
      repeat' first
      | (with_reducible exact ih0 _ _)
      | (with_reducible exact impl_BoxOk.mono _ _)
      | (with_reducible exact impl_BoxSame.mono _ _ _)
      | (with_reducible exact spec_BoxOk.mono _ _)
      | (with_reducible exact spec_DrawBoxOk.mono _ _)
      | (with_reducible exact LeO.refl _)
      | (with_reducible exact LeO.none _)
      | (with_reducible refine LeO.ite ?_ ?_)
      | (with_reducible refine LeO.bind ?_ (fun _ => ?_))
      | exact ih0 _ _
      | exact impl_BoxOk.mono _ _
      | exact impl_BoxSame.mono _ _ _
      | exact spec_BoxOk.mono _ _
      | exact spec_DrawBoxOk.mono _ _
      | exact LeO.none _
      | refine LeO.ite ?_ ?_
      | refine LeO.bind ?_ (fun _ => ?_)
theorem laws_FnBoxOpen.mono : ∀ a0 k, LeO (laws_FnBoxOpen.f k a0) (laws_FnBoxOpen.f (k + 1) a0) := by
  intro a0 k
  have ih0 := laws_FnBoxOpen.mono_l k
  unfold laws_FnBoxOpen.f
  repeat' first
      | (with_reducible exact ih0 _ _)
      | (with_reducible exact impl_BoxOk.mono _ _)
      | (with_reducible exact impl_BoxSame.mono _ _ _)
      | (with_reducible exact spec_BoxOk.mono _ _)
      | (with_reducible exact spec_DrawBoxOk.mono _ _)
      | (with_reducible exact LeO.refl _)
      | (with_reducible exact LeO.none _)
      | (with_reducible refine LeO.ite ?_ ?_)
      | (with_reducible refine LeO.bind ?_ (fun _ => ?_))
      | exact ih0 _ _
      | exact impl_BoxOk.mono _ _
      | exact impl_BoxSame.mono _ _ _
      | exact spec_BoxOk.mono _ _
      | exact spec_DrawBoxOk.mono _ _
      | exact LeO.none _
      | refine LeO.ite ?_ ?_
      | refine LeO.bind ?_ (fun _ => ?_)
set_option maxHeartbeats 8000000 in
set_option maxRecDepth 100000 in
theorem laws_FnBoxOpen.calls (k : Nat) (A0 : Option Addr) (c0 : Nat) (l0 : List Int) (r : Bool) (w : World) (hr0 : Kd.C (Kd.int .u8) w A0 l0.length l0) (hc0 : l0.length ≤ c0) (hrT : r = true) (h : laws_FnBoxOpen.f k l0 = some r) :
    Calls Try.prog 9 #[.slice A0 l0.length c0] w fun e w' => e = .returned (.bool r) ∧ Below w.heap.size w w' := by
  have HR0 := Aside0.mk hr0
  have HC0 := Aside0.mk hc0
  clear hr0 hc0
  have HB := Aside0.mk (Below.refl w.heap.size w)
  have HT_ := Aside0.mk hrT
  clear hrT
  have H : (if (l0.length : Int) > 1048576 then (some true) else ((spec_DrawBoxOk.f k l0).bind fun t166 => ((impl_BoxOpen.f).bind fun t169 => (if (t169.length : Int) = 4 then ((impl_BoxOk.f k t166).bind fun t172 => ((spec_BoxOk.f k t166).bind fun t173 => (if (t172 != t173) = true then (some false) else ((spec_BoxOpen.f).bind fun t174 => ((impl_BoxSame.f k t169 t174).bind fun t177 => (if t177 = true then ((spec_BoxOk.f k t166).bind fun t178 => (if t178 = true then (laws_FnBoxOpen.l0 k t166 0) else (some true))) else (some false))))))) else (some false))))) = some r := h
  clear h
  by_cases c2 : (l0.length : Int) > 1048576
  · rw [if_pos c2] at H
    have c2b0 : decide (1048576 < (l0.length : Int)) = true := decide_eq_true c2
    have c2b1 : decide (1048576 < l0.length) = true := decide_eq_true (by omega)
    clear c2
    obtain rfl := Option.some.inj H
    go_enter Try.func9, Try.ntmps9
    go_wp2
    go_ret
    exact ⟨by first | rfl | (simp [errW_none, errW_some] <;> rfl) | (simp [*, errW_none, errW_some] <;> rfl), by repeat (first | (with_reducible first | exact HB.out | apply below_alloc | apply pw_below_drewN | apply below_drew1) | exact HB.out)⟩
  · rw [if_neg c2] at H
    have c2b0 : decide (1048576 < (l0.length : Int)) = false := decide_eq_false c2
    have c2b1 : decide (1048576 < l0.length) = false := decide_eq_false (by omega)
    clear c2
    replace H := Option.bind_eq_some_iff.mp H
    obtain ⟨t166, A30, H⟩ := H
    replace H : ((impl_BoxOpen.f).bind fun t169 => (if (t169.length : Int) = 4 then ((impl_BoxOk.f k t166).bind fun t172 => ((spec_BoxOk.f k t166).bind fun t173 => (if (t172 != t173) = true then (some false) else ((spec_BoxOpen.f).bind fun t174 => ((impl_BoxSame.f k t169 t174).bind fun t177 => (if t177 = true then ((spec_BoxOk.f k t166).bind fun t178 => (if t178 = true then (laws_FnBoxOpen.l0 k t166 0) else (some true))) else (some false))))))) else (some false))) = some r := H
    have A3 := Aside0.mk A30
    clear A30
    replace H := Option.bind_eq_some_iff.mp H
    obtain ⟨t169, A40, H⟩ := H
    replace H : (if (t169.length : Int) = 4 then ((impl_BoxOk.f k t166).bind fun t172 => ((spec_BoxOk.f k t166).bind fun t173 => (if (t172 != t173) = true then (some false) else ((spec_BoxOpen.f).bind fun t174 => ((impl_BoxSame.f k t169 t174).bind fun t177 => (if t177 = true then ((spec_BoxOk.f k t166).bind fun t178 => (if t178 = true then (laws_FnBoxOpen.l0 k t166 0) else (some true))) else (some false))))))) else (some false)) = some r := H
    have A4 := Aside0.mk A40
    clear A40
    by_cases c5 : (t169.length : Int) = 4
    · rw [if_pos c5] at H
      have c5b0 : ((t169.length : Int) == 4) = true := beq_iff_eq.mpr c5
      have c5b1 : ((t169.length : Int) != 4) = false := bne_eq_false_iff_eq.mpr c5
      clear c5
      replace H := Option.bind_eq_some_iff.mp H
      obtain ⟨t172, A60, H⟩ := H
      replace H : ((spec_BoxOk.f k t166).bind fun t173 => (if (t172 != t173) = true then (some false) else ((spec_BoxOpen.f).bind fun t174 => ((impl_BoxSame.f k t169 t174).bind fun t177 => (if t177 = true then ((spec_BoxOk.f k t166).bind fun t178 => (if t178 = true then (laws_FnBoxOpen.l0 k t166 0) else (some true))) else (some false)))))) = some r := H
      have A6 := Aside0.mk A60
      clear A60
      replace H := Option.bind_eq_some_iff.mp H
      obtain ⟨t173, A70, H⟩ := H
      replace H : (if (t172 != t173) = true then (some false) else ((spec_BoxOpen.f).bind fun t174 => ((impl_BoxSame.f k t169 t174).bind fun t177 => (if t177 = true then ((spec_BoxOk.f k t166).bind fun t178 => (if t178 = true then (laws_FnBoxOpen.l0 k t166 0) else (some true))) else (some false))))) = some r := H
      have A7 := Aside0.mk A70
      clear A70
      by_cases c8 : (t172 != t173) = true
      · rw [if_pos c8] at H
        have c8b0 : (t172 != t173) = true := c8
        (try (have c8b1 : decide (t172 = t173) = false := by simpa using c8))
        (try (have c8b2 : (t172 == t173) = false := by simpa using c8))
        (try (have c8b3 : ¬ (t172 = t173) := by simpa using c8))
        clear c8
        exact absurd ((Option.some.inj H).trans HT_.out) (by decide)
      · rw [if_neg c8] at H
        have c8b0 : (t172 != t173) = false := by simpa using c8
        (try (have c8b1 : decide (t172 = t173) = true := by simpa using c8))
        (try (have c8b2 : (t172 == t173) = true := by simpa using c8))
        clear c8
        replace H := Option.bind_eq_some_iff.mp H
        obtain ⟨t174, A90, H⟩ := H
        replace H : ((impl_BoxSame.f k t169 t174).bind fun t177 => (if t177 = true then ((spec_BoxOk.f k t166).bind fun t178 => (if t178 = true then (laws_FnBoxOpen.l0 k t166 0) else (some true))) else (some false))) = some r := H
        have A9 := Aside0.mk A90
        clear A90
        replace H := Option.bind_eq_some_iff.mp H
        obtain ⟨t177, A100, H⟩ := H
        replace H : (if t177 = true then ((spec_BoxOk.f k t166).bind fun t178 => (if t178 = true then (laws_FnBoxOpen.l0 k t166 0) else (some true))) else (some false)) = some r := H
        have A10 := Aside0.mk A100
        clear A100
        by_cases c11 : t177 = true
        · subst c11
          have H1 : ((spec_BoxOk.f k t166).bind fun t178 => (if t178 = true then (laws_FnBoxOpen.l0 k t166 0) else (some true))) = some r := by rw [if_pos rfl] at H; exact H
          clear H
          have H := H1
          clear H1
          replace H := Option.bind_eq_some_iff.mp H
          obtain ⟨t178, A120, H⟩ := H
          replace H : (if t178 = true then (laws_FnBoxOpen.l0 k t166 0) else (some true)) = some r := H
          have A12 := Aside0.mk A120
          clear A120
          by_cases c13 : t178 = true
          · subst c13
            have H1 : (laws_FnBoxOpen.l0 k t166 0) = some r := by rw [if_pos rfl] at H; exact H
            clear H
            have H := H1
            clear H1
            have H' := Aside0.mk H
            clear H
            go_enter Try.func9, Try.ntmps9
            go_wp2_with (first | ((with_reducible refine gate_callee (f := 32) rfl ?_); refine goesL_ (some 12) rfl rfl Try.func32 (by kernel_rfl) rfl #[.slice A0 l0.length c0] rfl (by (try simp only [List.map_toArray, List.map_cons, List.map_nil]); first | done | rfl | (simp only [List.length_drop, List.length_take]; rfl)) ?_; (with_reducible refine (spec_DrawBoxOk.calls k _ _ l0 t166 _ ?side1 ?side2 A3.out).mono ?_); (case side1 => repeat (first | exact HR0.out | (with_reducible refine Kd.C_alloc ?_ _) | (with_reducible refine Kd.C_drewN ?_ _) | (with_reducible refine Kd.C_drew ?_))); (case side2 => exact HC0.out); rintro e w14 ⟨v167, rfl, ho0, hb⟩; refine ⟨_, rfl, ?_⟩; have n0_ := Aside0.mk (Kd.R_lower ho0 (below_size (by repeat (first | (with_reducible first | exact HB.out | apply below_alloc | apply pw_below_drewN | apply below_drew1) | exact HB.out)))); have n1_ := Aside0.mk (below_step (by repeat (first | (with_reducible first | exact HB.out | apply below_alloc | apply pw_below_drewN | apply below_drew1) | exact HB.out)) hb); clear HB; have HO168 := n0_; have HB := n1_; clear n0_ n1_; (try clear hb); (try clear hb2); (try clear hk); (try clear hi); (try clear ho0)) | ((with_reducible refine gate_callee (f := 17) rfl ?_); refine goesL_ (some 13) rfl rfl Try.func17 (by kernel_rfl) rfl #[] rfl (by (try simp only [List.map_toArray, List.map_cons, List.map_nil]); first | done | rfl | (simp only [List.length_drop, List.length_take]; rfl)) ?_; (with_reducible refine (impl_BoxOpen.calls  t169 _ A4.out).mono ?_); rintro e w15 ⟨v170, rfl, ho0, hb⟩; refine ⟨_, rfl, ?_⟩; have n0_ := Aside0.mk (Kd.R_elder' (by (with_reducible repeat (first | apply Kd.R_alloc | apply Kd.R_drewN | apply Kd.R_drew)); exact HO168.out) (Kd.R_base ho0) hb); have n1_ := Aside0.mk (Kd.R_lower (Kd.R_new' ho0 (Kd.R_lt (by (with_reducible repeat (first | apply Kd.R_alloc | apply Kd.R_drewN | apply Kd.R_drew)); exact HO168.out))) (below_size (by repeat (first | (with_reducible first | exact HB.out | apply below_alloc | apply pw_below_drewN | apply below_drew1) | exact HB.out)))); have n2_ := Aside0.mk (below_step (by repeat (first | (with_reducible first | exact HB.out | apply below_alloc | apply pw_below_drewN | apply below_drew1) | exact HB.out)) hb); clear HO168; clear HB; have HO168 := n0_; have HO171 := n1_; have HB := n2_; clear n0_ n1_ n2_; (try clear hb); (try clear hb2); (try clear hk); (try clear hi); (try clear ho0); obtain ⟨Ao16, co16, eo16⟩ := Kd.R_slice HO171.out; subst eo16; obtain ⟨Ao17, co17, eo17⟩ := Kd.R_slice HO168.out; subst eo17) | (go_at_call 26; (with_reducible refine (impl_BoxOk.calls k _ _ t166 t172 _ ?side1 ?side2 A6.out).mono ?_); (case side1 => repeat (first | exact (Kd.R_reads' HO168.out).2.2 | (with_reducible refine Kd.C_alloc ?_ _) | (with_reducible refine Kd.C_drewN ?_ _) | (with_reducible refine Kd.C_drew ?_))); (case side2 => exact (Kd.R_reads' HO168.out).2.1); rintro e w18 ⟨rfl, hb⟩; have n0_ := Aside0.mk (Kd.R_below (by (with_reducible repeat (first | apply Kd.R_alloc | apply Kd.R_drewN | apply Kd.R_drew)); exact HO168.out) hb); have n1_ := Aside0.mk (Kd.R_below (by (with_reducible repeat (first | apply Kd.R_alloc | apply Kd.R_drewN | apply Kd.R_drew)); exact HO171.out) hb); have n2_ := Aside0.mk (below_step (by repeat (first | (with_reducible first | exact HB.out | apply below_alloc | apply pw_below_drewN | apply below_drew1) | exact HB.out)) hb); clear HO168; clear HO171; clear HB; have HO168 := n0_; have HO171 := n1_; have HB := n2_; clear n0_ n1_ n2_; (try clear hb); (try clear hb2); (try clear hk); (try clear hi)) | (go_at_call 25; (with_reducible refine (spec_BoxOk.calls k _ _ t166 t173 _ ?side1 ?side2 A7.out).mono ?_); (case side1 => repeat (first | exact (Kd.R_reads' HO168.out).2.2 | (with_reducible refine Kd.C_alloc ?_ _) | (with_reducible refine Kd.C_drewN ?_ _) | (with_reducible refine Kd.C_drew ?_))); (case side2 => exact (Kd.R_reads' HO168.out).2.1); rintro e w' ⟨rfl, ⟨nd, rfl⟩⟩) | (go_at_call 16; (with_reducible refine (spec_BoxOpen.calls  t174 _ A9.out).mono ?_); rintro e w19 ⟨v175, rfl, ho0, hb⟩; have n0_ := Aside0.mk (Kd.R_elder' (by (with_reducible repeat (first | apply Kd.R_alloc | apply Kd.R_drewN | apply Kd.R_drew)); exact HO168.out) (Kd.R_base ho0) hb); have n1_ := Aside0.mk (Kd.R_elder' (by (with_reducible repeat (first | apply Kd.R_alloc | apply Kd.R_drewN | apply Kd.R_drew)); exact HO171.out) (Kd.R_base ho0) hb); have n2_ := Aside0.mk (Kd.R_lower (Kd.R_new' (Kd.R_new' ho0 (Kd.R_lt (by (with_reducible repeat (first | apply Kd.R_alloc | apply Kd.R_drewN | apply Kd.R_drew)); exact HO168.out))) (Kd.R_lt (by (with_reducible repeat (first | apply Kd.R_alloc | apply Kd.R_drewN | apply Kd.R_drew)); exact HO171.out))) (below_size (by repeat (first | (with_reducible first | exact HB.out | apply below_alloc | apply pw_below_drewN | apply below_drew1) | exact HB.out)))); have n3_ := Aside0.mk (below_step (by repeat (first | (with_reducible first | exact HB.out | apply below_alloc | apply pw_below_drewN | apply below_drew1) | exact HB.out)) hb); clear HO168; clear HO171; clear HB; have HO168 := n0_; have HO171 := n1_; have HO176 := n2_; have HB := n3_; clear n0_ n1_ n2_ n3_; (try clear hb); (try clear hb2); (try clear hk); (try clear hi); (try clear ho0); obtain ⟨Ao20, co20, eo20⟩ := Kd.R_slice HO176.out; subst eo20) | (go_at_call 24; (with_reducible refine (impl_BoxSame.calls k _ _ t169 _ _ t174 true _ ?side1 ?side2 ?side3 ?side4 A10.out).mono ?_); (case side1 => repeat (first | exact (Kd.R_reads' HO171.out).2.2 | (with_reducible refine Kd.C_alloc ?_ _) | (with_reducible refine Kd.C_drewN ?_ _) | (with_reducible refine Kd.C_drew ?_))); (case side2 => exact (Kd.R_reads' HO171.out).2.1); (case side3 => repeat (first | exact (Kd.R_reads' HO176.out).2.2 | (with_reducible refine Kd.C_alloc ?_ _) | (with_reducible refine Kd.C_drewN ?_ _) | (with_reducible refine Kd.C_drew ?_))); (case side4 => exact (Kd.R_reads' HO176.out).2.1); rintro e w' ⟨rfl, ⟨nd, rfl⟩⟩) | ((with_reducible refine gate_callee (f := 25) rfl ?_); refine goesL_ (some 31) rfl rfl Try.func25 (by kernel_rfl) rfl #[.slice Ao17 t166.length co17] rfl (by (try simp only [List.map_toArray, List.map_cons, List.map_nil]); first | done | rfl | (simp only [List.length_drop, List.length_take]; rfl)) ?_; (with_reducible refine (spec_BoxOk.calls k _ _ t166 true _ ?side1 ?side2 A12.out).mono ?_); (case side1 => repeat (first | exact (Kd.R_reads' HO168.out).2.2 | (with_reducible refine Kd.C_alloc ?_ _) | (with_reducible refine Kd.C_drewN ?_ _) | (with_reducible refine Kd.C_drew ?_))); (case side2 => exact (Kd.R_reads' HO168.out).2.1); rintro e w' ⟨rfl, ⟨nd, rfl⟩⟩; refine ⟨_, rfl, ?_⟩))
            go_loopg [5] k (fun kq v5 w' => ∃ (x3_1 : List (S44)) (x5_1 : Int), v5 = .int .i64 x5_1 ∧ Aside0 (laws_FnBoxOpen.l0 kq x3_1 x5_1 = some r) ∧ Aside0 (kq ≤ k) ∧ Aside0 (Kd.R k44 44 w' w.heap.size (fun _ => True) (.slice Ao17 t166.length co17) x3_1) ∧ Aside0 (Below w.heap.size w w'))
            case atStart => exact ⟨(t166), (0), (by first | rfl | (simp; done) | (simp [*]; done)), H', ⟨Nat.le_refl _⟩, ⟨by (with_reducible repeat (first | apply Kd.R_alloc | apply Kd.R_drewN | apply Kd.R_drew)); exact Kd.R_mono HO168.out (fun _ hk => trivial)⟩, ⟨by repeat (first | (with_reducible first | exact HB.out | apply below_alloc | apply pw_below_drewN | apply below_drew1) | exact HB.out)⟩⟩
            case round =>
              clear H'
              try clear c1
              try clear c2
              try clear c2b0
              try clear c2b1
              try clear p2
              try clear c3
              try clear c5
              try clear c5b0
              try clear c5b1
              try clear c8
              try clear c8b0
              try clear c8b1
              try clear c8b2
              try clear c9
              try clear c11
              try clear c13
              try clear c17
              obtain ⟨x3_1, x5_1, rfl, HA, HK1, HO_3, HB⟩ := hrel
              have hl3_1 := (Kd.R_reads' HO_3.out).1
              rw [hl3_1] at HO_3
              (try simp only [hl3_1])
              cases gk with
              | zero => exact absurd HA.out (by simp [laws_FnBoxOpen.l0])
              | succ k1 =>
                have H := HA.out
                clear HA
                simp only [laws_FnBoxOpen.l0] at H
                by_cases c21 : x5_1 < (x3_1.length : Int)
                · rw [if_pos c21] at H
                  have c21b0 : decide (x5_1 < (x3_1.length : Int)) = true := decide_eq_true c21
                  clear c21
                  obtain ⟨y179, hy179⟩ : ∃ y_ : List (S44), y_ = (([] : List (S44))) := ⟨_, rfl⟩
                  replace H : (if y179.length + x3_1.length < 8796093022208 then ((some (y179 ++ x3_1 : List (S44))).bind fun y182 => (if 0 ≤ x5_1 then (if x5_1 < (y182.length : Int) then ((some (y182.set (x5_1 : Int).toNat (⟨(rd_T44 y182 x5_1).f0, 1000001⟩ : S44) : List (S44))).bind fun y185 => ((some (([] : List (S44)) : List (S44))).bind fun y186 => (if y186.length + x3_1.length < 8796093022208 then ((some (y186 ++ x3_1 : List (S44))).bind fun y189 => (if x5_1 < (y189.length : Int) then ((impl_BoxOk.f k1 y185).bind fun t193 => (if t193 = true then (some false) else ((impl_BoxOk.f k1 (y189.set (x5_1 : Int).toNat (⟨(-1), (rd_T44 y189 x5_1).f1⟩ : S44))).bind fun t194 => (if t194 = true then (some false) else ((impl_BoxSame.f k1 y185 x3_1).bind fun t195 => (if t195 = true then (some false) else (laws_FnBoxOpen.l0 k1 x3_1 (wrap64 (x5_1 + 1))))))))) else (none))) else (none)))) else (none)) else (none))) else (none)) = some r := by first | (rw [hy179]; with_reducible exact H) | (have H2_ := (Option.bind_some _ _).symm.trans H; rw [hy179]; with_reducible exact H2_) | (have H2_ := (Option.bind_some _ _).symm.trans H; with_reducible exact H2_) | with_reducible exact H | (rw [hy179]; exact H) | exact H
                  have Ny179 := Aside0.mk hy179
                  clear hy179
                  by_cases c22 : y179.length + x3_1.length < 8796093022208
                  · rw [if_pos c22] at H
                    have LMc22 := Aside0.mk c22
                    clear c22
                    obtain ⟨y182, hy182⟩ : ∃ y_ : List (S44), y_ = (y179 ++ x3_1) := ⟨_, rfl⟩
                    replace H : (if 0 ≤ x5_1 then (if x5_1 < (y182.length : Int) then ((some (y182.set (x5_1 : Int).toNat (⟨(rd_T44 y182 x5_1).f0, 1000001⟩ : S44) : List (S44))).bind fun y185 => ((some (([] : List (S44)) : List (S44))).bind fun y186 => (if y186.length + x3_1.length < 8796093022208 then ((some (y186 ++ x3_1 : List (S44))).bind fun y189 => (if x5_1 < (y189.length : Int) then ((impl_BoxOk.f k1 y185).bind fun t193 => (if t193 = true then (some false) else ((impl_BoxOk.f k1 (y189.set (x5_1 : Int).toNat (⟨(-1), (rd_T44 y189 x5_1).f1⟩ : S44))).bind fun t194 => (if t194 = true then (some false) else ((impl_BoxSame.f k1 y185 x3_1).bind fun t195 => (if t195 = true then (some false) else (laws_FnBoxOpen.l0 k1 x3_1 (wrap64 (x5_1 + 1))))))))) else (none))) else (none)))) else (none)) else (none)) = some r := by first | (rw [hy182]; with_reducible exact H) | (have H2_ := (Option.bind_some _ _).symm.trans H; rw [hy182]; with_reducible exact H2_) | (have H2_ := (Option.bind_some _ _).symm.trans H; with_reducible exact H2_) | with_reducible exact H | (rw [hy182]; exact H) | exact H
                    have Ny182 := Aside0.mk hy182
                    clear hy182
                    by_cases c23 : 0 ≤ x5_1
                    · rw [if_pos c23] at H
                      have c23b0 : decide (0 ≤ x5_1) = true := decide_eq_true c23
                      clear c23
                      by_cases c24 : x5_1 < (y182.length : Int)
                      · rw [if_pos c24] at H
                        have c24b0 : decide (x5_1 < (y182.length : Int)) = true := decide_eq_true c24
                        clear c24
                        obtain ⟨y185, hy185⟩ : ∃ y_ : List (S44), y_ = (y182.set (x5_1 : Int).toNat (⟨(rd_T44 y182 x5_1).f0, 1000001⟩ : S44)) := ⟨_, rfl⟩
                        replace H : ((some (([] : List (S44)) : List (S44))).bind fun y186 => (if y186.length + x3_1.length < 8796093022208 then ((some (y186 ++ x3_1 : List (S44))).bind fun y189 => (if x5_1 < (y189.length : Int) then ((impl_BoxOk.f k1 y185).bind fun t193 => (if t193 = true then (some false) else ((impl_BoxOk.f k1 (y189.set (x5_1 : Int).toNat (⟨(-1), (rd_T44 y189 x5_1).f1⟩ : S44))).bind fun t194 => (if t194 = true then (some false) else ((impl_BoxSame.f k1 y185 x3_1).bind fun t195 => (if t195 = true then (some false) else (laws_FnBoxOpen.l0 k1 x3_1 (wrap64 (x5_1 + 1))))))))) else (none))) else (none))) = some r := by first | (rw [hy185]; with_reducible exact H) | (have H2_ := (Option.bind_some _ _).symm.trans H; rw [hy185]; with_reducible exact H2_) | (have H2_ := (Option.bind_some _ _).symm.trans H; with_reducible exact H2_) | with_reducible exact H | (rw [hy185]; exact H) | exact H
                        have Ny185 := Aside0.mk hy185
                        clear hy185
                        obtain ⟨y186, hy186⟩ : ∃ y_ : List (S44), y_ = (([] : List (S44))) := ⟨_, rfl⟩
                        replace H : (if y186.length + x3_1.length < 8796093022208 then ((some (y186 ++ x3_1 : List (S44))).bind fun y189 => (if x5_1 < (y189.length : Int) then ((impl_BoxOk.f k1 y185).bind fun t193 => (if t193 = true then (some false) else ((impl_BoxOk.f k1 (y189.set (x5_1 : Int).toNat (⟨(-1), (rd_T44 y189 x5_1).f1⟩ : S44))).bind fun t194 => (if t194 = true then (some false) else ((impl_BoxSame.f k1 y185 x3_1).bind fun t195 => (if t195 = true then (some false) else (laws_FnBoxOpen.l0 k1 x3_1 (wrap64 (x5_1 + 1))))))))) else (none))) else (none)) = some r := by first | (rw [hy186]; with_reducible exact H) | (have H2_ := (Option.bind_some _ _).symm.trans H; rw [hy186]; with_reducible exact H2_) | (have H2_ := (Option.bind_some _ _).symm.trans H; with_reducible exact H2_) | with_reducible exact H | (rw [hy186]; exact H) | exact H
                        have Ny186 := Aside0.mk hy186
                        clear hy186
                        by_cases c26 : y186.length + x3_1.length < 8796093022208
                        · rw [if_pos c26] at H
                          have LMc26 := Aside0.mk c26
                          clear c26
                          obtain ⟨y189, hy189⟩ : ∃ y_ : List (S44), y_ = (y186 ++ x3_1) := ⟨_, rfl⟩
                          replace H : (if x5_1 < (y189.length : Int) then ((impl_BoxOk.f k1 y185).bind fun t193 => (if t193 = true then (some false) else ((impl_BoxOk.f k1 (y189.set (x5_1 : Int).toNat (⟨(-1), (rd_T44 y189 x5_1).f1⟩ : S44))).bind fun t194 => (if t194 = true then (some false) else ((impl_BoxSame.f k1 y185 x3_1).bind fun t195 => (if t195 = true then (some false) else (laws_FnBoxOpen.l0 k1 x3_1 (wrap64 (x5_1 + 1))))))))) else (none)) = some r := by first | (rw [hy189]; with_reducible exact H) | (have H2_ := (Option.bind_some _ _).symm.trans H; rw [hy189]; with_reducible exact H2_) | (have H2_ := (Option.bind_some _ _).symm.trans H; with_reducible exact H2_) | with_reducible exact H | (rw [hy189]; exact H) | exact H
                          have Ny189 := Aside0.mk hy189
                          clear hy189
                          by_cases c27 : x5_1 < (y189.length : Int)
                          · rw [if_pos c27] at H
                            have c27b0 : decide (x5_1 < (y189.length : Int)) = true := decide_eq_true c27
                            clear c27
                            obtain ⟨y192, hy192⟩ : ∃ y_ : List (S44), y_ = (y189.set (x5_1 : Int).toNat (⟨(-1), (rd_T44 y189 x5_1).f1⟩ : S44)) := ⟨_, rfl⟩
                            replace H : ((impl_BoxOk.f k1 y185).bind fun t193 => (if t193 = true then (some false) else ((impl_BoxOk.f k1 y192).bind fun t194 => (if t194 = true then (some false) else ((impl_BoxSame.f k1 y185 x3_1).bind fun t195 => (if t195 = true then (some false) else (laws_FnBoxOpen.l0 k1 x3_1 (wrap64 (x5_1 + 1))))))))) = some r := by first | (rw [hy192]; with_reducible exact H) | (have H2_ := (Option.bind_some _ _).symm.trans H; rw [hy192]; with_reducible exact H2_) | (have H2_ := (Option.bind_some _ _).symm.trans H; with_reducible exact H2_) | with_reducible exact H | (rw [hy192]; exact H) | exact H
                            have Ny192 := Aside0.mk hy192
                            clear hy192
                            replace H := Option.bind_eq_some_iff.mp H
                            obtain ⟨t193, A290, H⟩ := H
                            replace H : (if t193 = true then (some false) else ((impl_BoxOk.f k1 y192).bind fun t194 => (if t194 = true then (some false) else ((impl_BoxSame.f k1 y185 x3_1).bind fun t195 => (if t195 = true then (some false) else (laws_FnBoxOpen.l0 k1 x3_1 (wrap64 (x5_1 + 1)))))))) = some r := H
                            have A29 := Aside0.mk A290
                            clear A290
                            by_cases c30 : t193 = true
                            · subst c30
                              have H1 : (some false) = some r := by rw [if_pos rfl] at H; exact H
                              clear H
                              have H := H1
                              clear H1
                              exact absurd ((Option.some.inj H).trans HT_.out) (by decide)
                            · replace c30 := Bool.eq_false_iff.mpr c30
                              subst c30
                              have H1 : ((impl_BoxOk.f k1 y192).bind fun t194 => (if t194 = true then (some false) else ((impl_BoxSame.f k1 y185 x3_1).bind fun t195 => (if t195 = true then (some false) else (laws_FnBoxOpen.l0 k1 x3_1 (wrap64 (x5_1 + 1))))))) = some r := by rw [if_neg (show ¬ (false = true) by decide)] at H; exact H
                              clear H
                              have H := H1
                              clear H1
                              replace H := Option.bind_eq_some_iff.mp H
                              obtain ⟨t194, A310, H⟩ := H
                              replace H : (if t194 = true then (some false) else ((impl_BoxSame.f k1 y185 x3_1).bind fun t195 => (if t195 = true then (some false) else (laws_FnBoxOpen.l0 k1 x3_1 (wrap64 (x5_1 + 1)))))) = some r := H
                              have A31 := Aside0.mk A310
                              clear A310
                              by_cases c32 : t194 = true
                              · subst c32
                                have H1 : (some false) = some r := by rw [if_pos rfl] at H; exact H
                                clear H
                                have H := H1
                                clear H1
                                exact absurd ((Option.some.inj H).trans HT_.out) (by decide)
                              · replace c32 := Bool.eq_false_iff.mpr c32
                                subst c32
                                have H1 : ((impl_BoxSame.f k1 y185 x3_1).bind fun t195 => (if t195 = true then (some false) else (laws_FnBoxOpen.l0 k1 x3_1 (wrap64 (x5_1 + 1))))) = some r := by rw [if_neg (show ¬ (false = true) by decide)] at H; exact H
                                clear H
                                have H := H1
                                clear H1
                                replace H := Option.bind_eq_some_iff.mp H
                                obtain ⟨t195, A330, H⟩ := H
                                replace H : (if t195 = true then (some false) else (laws_FnBoxOpen.l0 k1 x3_1 (wrap64 (x5_1 + 1)))) = some r := H
                                have A33 := Aside0.mk A330
                                clear A330
                                by_cases c34 : t195 = true
                                · subst c34
                                  have H1 : (some false) = some r := by rw [if_pos rfl] at H; exact H
                                  clear H
                                  have H := H1
                                  clear H1
                                  exact absurd ((Option.some.inj H).trans HT_.out) (by decide)
                                · replace c34 := Bool.eq_false_iff.mpr c34
                                  subst c34
                                  have H1 : (laws_FnBoxOpen.l0 k1 x3_1 (wrap64 (x5_1 + 1))) = some r := by rw [if_neg (show ¬ (false = true) by decide)] at H; exact H
                                  clear H
                                  have H := H1
                                  clear H1
                                  have H' := Aside0.mk H
                                  clear H
                                  go_wp2_with (first | ((with_reducible refine gate_dst (N := 39) rfl ?_); refine Kd.R_lit k44 _ 44 ?hg (N := 39) ?hd (xs := ([] : List (S44))) (inner := []) (ok := fun _ => True) (okp := fun _ => True) ?hr ?hp (fun _ hk => hk) trivial (Below.refl _ _) (Nat.le_refl _) (by simp) ?_; (case hd => rfl); (case hg => rfl); (case hr => first | (go_simp; done) | (go_simp; rfl)); (case hp => exact (Reps.none _ _)); intro v180 w35 ho36 hb hg_ hnew_; clear hg_ hnew_; (first | rw [← Ny179.out] at ho36 | (simp only [Int.reduceToNat] at ho36; rw [← Ny179.out] at ho36)); have n0_ := Aside0.mk (Kd.R_elder' (by (with_reducible repeat (first | apply Kd.R_alloc | apply Kd.R_drewN | apply Kd.R_drew)); exact HO_3.out) (Kd.R_base ho36) hb); have n1_ := Aside0.mk (Kd.R_lower (Kd.R_new' ho36 (Kd.R_lt (by (with_reducible repeat (first | apply Kd.R_alloc | apply Kd.R_drewN | apply Kd.R_drew)); exact HO_3.out))) (below_size (by repeat (first | (with_reducible first | exact HB.out | apply below_alloc | apply pw_below_drewN | apply below_drew1) | exact HB.out)))); have n2_ := Aside0.mk (below_step (by repeat (first | (with_reducible first | exact HB.out | apply below_alloc | apply pw_below_drewN | apply below_drew1) | exact HB.out)) hb); clear HO_3; clear HB; have HO_3 := n0_; have HO181 := n1_; have HB := n2_; clear n0_ n1_ n2_; clear hb ho36) | ((with_reducible refine gate_builtin (b := .append) (xs := #[.tmp 39, .tmp 40]) rfl ?_); at_builtin; refine Kd.R_append_rows k44 (w0 := w) w.heap.size rfl (.tmp 39) (.tmp 40) 25 44 (.agg #[(.int .i64 0), (.int .i64 0)]) 16 rfl Try.underlying25 info44 rfl (by decide) (by omega) v180 y179 x3_1 _ _ _ (fun k_ => some k_ ≠ (.slice Ao17 x3_1.length co17 : Value).ownBlock) (fun _ => False) rfl rfl ?aO ?aR (fun _ _ h => h) (fun _ h => h.elim) ?aF ?aB ?aS ?aL ?_; (case aR => repeat (first | exact (Kd.R_reads' HO_3.out).2.2 | (with_reducible refine Kd.C_alloc ?_ _) | (with_reducible refine Kd.C_drewN ?_ _) | (with_reducible refine Kd.C_drew ?_))); (case aB => exact (by repeat (first | (with_reducible first | exact HB.out | apply below_alloc | apply pw_below_drewN | apply below_drew1) | exact HB.out))); (case aF => exact (fun k_ hk => Kd.fresh' (Kd.R_lt (by (with_reducible repeat (first | apply Kd.R_alloc | apply Kd.R_drewN | apply Kd.R_drew)); exact HO_3.out)) k_ hk)); (case aO => exact (by (with_reducible repeat (first | apply Kd.R_alloc | apply Kd.R_drewN | apply Kd.R_drew)); exact Kd.R_mono HO181.out (fun _ hk => hk.2))); (case aS => exact (below_size (by repeat (first | (with_reducible first | exact HB.out | apply below_alloc | apply pw_below_drewN | apply below_drew1) | exact HB.out)))); (case aL => have := LMc22.out; omega); intro v183 w37 ho hb hg hat; rw [← Ny182.out] at ho; have n0_ := Aside0.mk (Kd.R_after (ok := (fun _ => True)) (by (with_reducible repeat (first | apply Kd.R_alloc | apply Kd.R_drewN | apply Kd.R_drew)); exact HO_3.out) hg hat); have n1_ := Aside0.mk (hb); have n2_ := Aside0.mk (ho); clear HO_3; clear HB; clear HO181; have HO_3 := n0_; have HB := n1_; have HO184 := n2_; clear n0_ n1_ n2_; clear ho hb hg hat; have p25 : 0 ≤ (x5_1 : Int) := of_decide_eq_true (by first | (with_reducible assumption) | assumption); have q25 : (x5_1 : Int) < ((y182.length : Int) : Int) := of_decide_eq_true (by first | (with_reducible assumption) | assumption); obtain ⟨go25, co25, eo25, gb25, gl25, cl25, HG25⟩ := Kd.R_form HO184.out (by omega); (first | cases eo25 | (injection eo25 with ea_ en_ ec_; (first | subst ea_ | (injection ea_ with ea_; subst ea_)); subst ec_; clear en_)); have GB25 := Aside0.mk gb25; have GG25 := Aside0.mk HG25; clear gb25 gl25 HG25; obtain ⟨ce25, hcl25, hM25, hcc25, hfr25⟩ := Kd.R_elem HO184.out z44 (x5_1 : Int) p25 q25; obtain rfl := k44_openM hM25; have hx25_0 : w37.cell? ⟨go25, (x5_1 : Int).toNat * 2, none⟩ = some (.int .i64 ((rd_T44 y182 x5_1).f0)) := hcc25 0 _ rfl; have hx25_1 : w37.cell? ⟨go25, (x5_1 : Int).toNat * 2 + 1, none⟩ = some (.int .i64 ((rd_T44 y182 x5_1).f1)) := hcc25 1 _ rfl; have hf25_0 : w37.frozen? ⟨go25, (x5_1 : Int).toNat * 2, none⟩ = false := hfr25 0; have hf25_1 : w37.frozen? ⟨go25, (x5_1 : Int).toNat * 2 + 1, none⟩ = false := hfr25 1; clear hcl25 hcc25 hfr25 hM25; replace p25 := eq_true p25; replace q25 := eq_true q25; have HX38 := Aside0.mk (show Kd.R k44 44 w37 w.heap.size (fun k_ => some k_ ≠ (.slice Ao17 x3_1.length co17 : Value).ownBlock) (.slice (some ⟨go25, 0, none⟩) y182.length co25) y182 from (by (with_reducible repeat (first | apply Kd.R_alloc | apply Kd.R_drewN | apply Kd.R_drew)); exact HO184.out)); obtain ⟨ce38, hcl38, hM38, hcc38, hfr38⟩ := Kd.R_elem HX38.out z44 (x5_1 : Int) (of_decide_eq_true (by first | (with_reducible assumption) | assumption)) (by have h_ : (x5_1 : Int) < ((y182.length : Int) : Int) := of_decide_eq_true (by first | (with_reducible assumption) | assumption); first | exact h_ | (have e_ := (Kd.R_reads' HO184.out).1; omega) | simpa using h_); obtain rfl := k44_openM hM38; have HP38 := Kd.R_seg HX38.out (x5_1 : Int) (of_decide_eq_true (by first | (with_reducible assumption) | assumption)) (by have h_ : (x5_1 : Int) < ((y182.length : Int) : Int) := of_decide_eq_true (by first | (with_reducible assumption) | assumption); first | exact h_ | (have e_ := (Kd.R_reads' HO184.out).1; omega) | simpa using h_) (seg := [.int .i64 1000001]) (j := 1) hcl38 hcc38 (show 2 ≤ 2 from by decide) (x' := (⟨(rd_T44 y182 x5_1).f0, 1000001⟩ : S44)) (k44_mkM _ _ _ (⟨(rd_T44 y182 x5_1).f0, 1000001⟩ : S44) ) (fun _ hk => hk); have hx38_1 := hcc38 1 _ rfl; (try simp only [show (k44).sz = 2 from rfl, Nat.mul_one, Nat.add_zero] at hx38_1); have hf38_1 := hfr38 1; (try simp only [show (k44).sz = 2 from rfl, Nat.mul_one, Nat.add_zero] at hf38_1); clear hcl38 hcc38 hfr38 hM38) | ((with_reducible refine gate_store (t := 3) (p := 45) rfl ?_); refine store_event (t := 3) (p := 45) (v := ?vo_w39) (w1 := (w37.setCell ⟨go25, (x5_1 : Int).toNat * 2 + 1, none⟩ (.int .i64 1000001))) ?hg ?ho ?hn ?hr ?_; (case ho => rfl); (case hg => rfl); (case hn => rfl); (case hr => first | (go_simp; done) | (go_simp; rfl)); intro w39 hw; have hg : w37.grownBy w39 (some go25) := (by rw [hw]; exact HP38.2); have hp_ : Kd.R k44 44 w39 w.heap.size (fun k_ => some k_ ≠ (.slice Ao17 x3_1.length co17 : Value).ownBlock) (.slice (some ⟨go25, 0, none⟩) y182.length co25) y185 := (by rw [hw, Ny185.out]; exact HP38.1); clear HP38; have n0_ := Aside0.mk (Kd.R_after (v := (.slice (some ⟨go25, 0, none⟩) y182.length co25)) (v1 := (.slice (some ⟨go25, 0, none⟩) y182.length co25)) (ok := (fun _ => True)) (by (with_reducible repeat (first | apply Kd.R_alloc | apply Kd.R_drewN | apply Kd.R_drew)); exact HO_3.out) hg (.inl rfl)); have n1_ := Aside0.mk (hp_); have n2_ := Aside0.mk ((by rw [hw]; exact below_set (HB.out) GB25.out : Below w.heap.size w w39)); clear HO_3; clear HO184; clear HB; have HO_3 := n0_; have HO184 := n1_; have HB := n2_; clear n0_ n1_ n2_; clear hg hw hp_) | ((with_reducible refine gate_dst (N := 46) rfl ?_); refine Kd.R_lit k44 _ 44 ?hg (N := 46) ?hd (xs := ([] : List (S44))) (inner := []) (ok := fun _ => True) (okp := fun _ => True) ?hr ?hp (fun _ hk => hk) trivial (Below.refl _ _) (Nat.le_refl _) (by simp) ?_; (case hd => rfl); (case hg => rfl); (case hr => first | (go_simp; done) | (go_simp; rfl)); (case hp => exact (Reps.none _ _)); intro v187 w40 ho41 hb hg_ hnew_; clear hg_ hnew_; (first | rw [← Ny186.out] at ho41 | (simp only [Int.reduceToNat] at ho41; rw [← Ny186.out] at ho41)); have n0_ := Aside0.mk (Kd.R_elder' (by (with_reducible repeat (first | apply Kd.R_alloc | apply Kd.R_drewN | apply Kd.R_drew)); exact HO_3.out) (Kd.R_base ho41) hb); have n1_ := Aside0.mk (Kd.R_elder' (by (with_reducible repeat (first | apply Kd.R_alloc | apply Kd.R_drewN | apply Kd.R_drew)); exact HO184.out) (Kd.R_base ho41) hb); have n2_ := Aside0.mk (Kd.R_lower (Kd.R_new' (Kd.R_new' ho41 (Kd.R_lt (by (with_reducible repeat (first | apply Kd.R_alloc | apply Kd.R_drewN | apply Kd.R_drew)); exact HO_3.out))) (Kd.R_lt (by (with_reducible repeat (first | apply Kd.R_alloc | apply Kd.R_drewN | apply Kd.R_drew)); exact HO184.out))) (below_size (by repeat (first | (with_reducible first | exact HB.out | apply below_alloc | apply pw_below_drewN | apply below_drew1) | exact HB.out)))); have n3_ := Aside0.mk (below_step (by repeat (first | (with_reducible first | exact HB.out | apply below_alloc | apply pw_below_drewN | apply below_drew1) | exact HB.out)) hb); clear HO_3; clear HO184; clear HB; have HO_3 := n0_; have HO184 := n1_; have HO188 := n2_; have HB := n3_; clear n0_ n1_ n2_ n3_; clear hb ho41) | ((with_reducible refine gate_builtin (b := .append) (xs := #[.tmp 46, .tmp 47]) rfl ?_); at_builtin; refine Kd.R_append_rows k44 (w0 := w) w.heap.size rfl (.tmp 46) (.tmp 47) 25 44 (.agg #[(.int .i64 0), (.int .i64 0)]) 16 rfl Try.underlying25 info44 rfl (by decide) (by omega) v187 y186 x3_1 _ _ _ (fun k_ => some k_ ≠ (.slice Ao17 x3_1.length co17 : Value).ownBlock ∧ some k_ ≠ (.slice (some ⟨go25, 0, none⟩) y182.length co25 : Value).ownBlock) (fun _ => False) rfl rfl ?aO ?aR (fun _ _ h => h) (fun _ h => h.elim) ?aF ?aB ?aS ?aL ?_; (case aR => repeat (first | exact (Kd.R_reads' HO_3.out).2.2 | (with_reducible refine Kd.C_alloc ?_ _) | (with_reducible refine Kd.C_drewN ?_ _) | (with_reducible refine Kd.C_drew ?_))); (case aB => exact (by repeat (first | (with_reducible first | exact HB.out | apply below_alloc | apply pw_below_drewN | apply below_drew1) | exact HB.out))); (case aF => exact (fun k_ hk => ⟨Kd.fresh' (Kd.R_lt (by (with_reducible repeat (first | apply Kd.R_alloc | apply Kd.R_drewN | apply Kd.R_drew)); exact HO_3.out)) k_ hk, Kd.fresh' (Kd.R_lt (by (with_reducible repeat (first | apply Kd.R_alloc | apply Kd.R_drewN | apply Kd.R_drew)); exact HO184.out)) k_ hk⟩)); (case aO => exact (by (with_reducible repeat (first | apply Kd.R_alloc | apply Kd.R_drewN | apply Kd.R_drew)); exact Kd.R_mono HO188.out (fun _ hk => ⟨hk.1.2, hk.2⟩))); (case aS => exact (below_size (by repeat (first | (with_reducible first | exact HB.out | apply below_alloc | apply pw_below_drewN | apply below_drew1) | exact HB.out)))); (case aL => have := LMc26.out; omega); intro v190 w42 ho hb hg hat; rw [← Ny189.out] at ho; have n0_ := Aside0.mk (Kd.R_after (ok := (fun k_ => some k_ ≠ (.slice (some ⟨go25, 0, none⟩) y182.length co25 : Value).ownBlock)) (by (with_reducible repeat (first | apply Kd.R_alloc | apply Kd.R_drewN | apply Kd.R_drew)); exact Kd.R_mono HO_3.out (fun _ hk => ⟨hk.1.2, hk.2⟩)) hg hat); have n1_ := Aside0.mk (Kd.R_after (ok := (fun k_ => some k_ ≠ (.slice Ao17 x3_1.length co17 : Value).ownBlock)) (by (with_reducible repeat (first | apply Kd.R_alloc | apply Kd.R_drewN | apply Kd.R_drew)); exact HO184.out) hg hat); have n2_ := Aside0.mk (hb); have n3_ := Aside0.mk (ho); clear HO_3; clear HO184; clear HB; clear HO188; have HO_3 := n0_; have HO184 := n1_; have HB := n2_; have HO191 := n3_; clear n0_ n1_ n2_ n3_; clear ho hb hg hat; have p28 : 0 ≤ (x5_1 : Int) := of_decide_eq_true (by first | (with_reducible assumption) | assumption); have q28 : (x5_1 : Int) < ((y189.length : Int) : Int) := of_decide_eq_true (by first | (with_reducible assumption) | assumption); obtain ⟨go28, co28, eo28, gb28, gl28, cl28, HG28⟩ := Kd.R_form HO191.out (by omega); (first | cases eo28 | (injection eo28 with ea_ en_ ec_; (first | subst ea_ | (injection ea_ with ea_; subst ea_)); subst ec_; clear en_)); have GB28 := Aside0.mk gb28; have GG28 := Aside0.mk HG28; clear gb28 gl28 HG28; obtain ⟨ce28, hcl28, hM28, hcc28, hfr28⟩ := Kd.R_elem HO191.out z44 (x5_1 : Int) p28 q28; obtain rfl := k44_openM hM28; have hx28_0 : w42.cell? ⟨go28, (x5_1 : Int).toNat * 2, none⟩ = some (.int .i64 ((rd_T44 y189 x5_1).f0)) := hcc28 0 _ rfl; have hx28_1 : w42.cell? ⟨go28, (x5_1 : Int).toNat * 2 + 1, none⟩ = some (.int .i64 ((rd_T44 y189 x5_1).f1)) := hcc28 1 _ rfl; have hf28_0 : w42.frozen? ⟨go28, (x5_1 : Int).toNat * 2, none⟩ = false := hfr28 0; have hf28_1 : w42.frozen? ⟨go28, (x5_1 : Int).toNat * 2 + 1, none⟩ = false := hfr28 1; clear hcl28 hcc28 hfr28 hM28; replace p28 := eq_true p28; replace q28 := eq_true q28; have HX43 := Aside0.mk (show Kd.R k44 44 w42 w.heap.size (fun k_ => some k_ ≠ (.slice Ao17 x3_1.length co17 : Value).ownBlock ∧ some k_ ≠ (.slice (some ⟨go25, 0, none⟩) y182.length co25 : Value).ownBlock) (.slice (some ⟨go28, 0, none⟩) y189.length co28) y189 from (by (with_reducible repeat (first | apply Kd.R_alloc | apply Kd.R_drewN | apply Kd.R_drew)); exact HO191.out)); obtain ⟨ce43, hcl43, hM43, hcc43, hfr43⟩ := Kd.R_elem HX43.out z44 (x5_1 : Int) (of_decide_eq_true (by first | (with_reducible assumption) | assumption)) (by have h_ : (x5_1 : Int) < ((y189.length : Int) : Int) := of_decide_eq_true (by first | (with_reducible assumption) | assumption); first | exact h_ | (have e_ := (Kd.R_reads' HO191.out).1; omega) | simpa using h_); obtain rfl := k44_openM hM43; have HP43 := Kd.R_seg HX43.out (x5_1 : Int) (of_decide_eq_true (by first | (with_reducible assumption) | assumption)) (by have h_ : (x5_1 : Int) < ((y189.length : Int) : Int) := of_decide_eq_true (by first | (with_reducible assumption) | assumption); first | exact h_ | (have e_ := (Kd.R_reads' HO191.out).1; omega) | simpa using h_) (seg := [.int .i64 (-1)]) (j := 0) hcl43 hcc43 (show 1 ≤ 2 from by decide) (x' := (⟨(-1), (rd_T44 y189 x5_1).f1⟩ : S44)) (k44_mkM _ _ _ (⟨(-1), (rd_T44 y189 x5_1).f1⟩ : S44) ) (fun _ hk => hk); have hx43_0 := hcc43 0 _ rfl; (try simp only [show (k44).sz = 2 from rfl, Nat.mul_one, Nat.add_zero] at hx43_0); have hf43_0 := hfr43 0; (try simp only [show (k44).sz = 2 from rfl, Nat.mul_one, Nat.add_zero] at hf43_0); clear hcl43 hcc43 hfr43 hM43) | ((with_reducible refine gate_store (t := 3) (p := 52) rfl ?_); refine store_event (t := 3) (p := 52) (v := ?vo_w44) (w1 := (w42.setCell ⟨go28, (x5_1 : Int).toNat * 2, none⟩ (.int .i64 (-1)))) ?hg ?ho ?hn ?hr ?_; (case ho => rfl); (case hg => rfl); (case hn => rfl); (case hr => first | (go_simp; done) | (go_simp; rfl)); intro w44 hw; have hg : w42.grownBy w44 (some go28) := (by rw [hw]; exact HP43.2); have hp_ : Kd.R k44 44 w44 w.heap.size (fun k_ => some k_ ≠ (.slice Ao17 x3_1.length co17 : Value).ownBlock ∧ some k_ ≠ (.slice (some ⟨go25, 0, none⟩) y182.length co25 : Value).ownBlock) (.slice (some ⟨go28, 0, none⟩) y189.length co28) y192 := (by rw [hw, Ny192.out]; exact HP43.1); clear HP43; have n0_ := Aside0.mk (Kd.R_after (v := (.slice (some ⟨go28, 0, none⟩) y189.length co28)) (v1 := (.slice (some ⟨go28, 0, none⟩) y189.length co28)) (ok := (fun k_ => some k_ ≠ (.slice (some ⟨go25, 0, none⟩) y182.length co25 : Value).ownBlock)) (by (with_reducible repeat (first | apply Kd.R_alloc | apply Kd.R_drewN | apply Kd.R_drew)); exact HO_3.out) hg (.inl rfl)); have n1_ := Aside0.mk (Kd.R_after (v := (.slice (some ⟨go28, 0, none⟩) y189.length co28)) (v1 := (.slice (some ⟨go28, 0, none⟩) y189.length co28)) (ok := (fun k_ => some k_ ≠ (.slice Ao17 x3_1.length co17 : Value).ownBlock)) (by (with_reducible repeat (first | apply Kd.R_alloc | apply Kd.R_drewN | apply Kd.R_drew)); exact HO184.out) hg (.inl rfl)); have n2_ := Aside0.mk (hp_); have n3_ := Aside0.mk ((by rw [hw]; exact below_set (HB.out) GB28.out : Below w.heap.size w w44)); clear HO_3; clear HO184; clear HO191; clear HB; have HO_3 := n0_; have HO184 := n1_; have HO191 := n2_; have HB := n3_; clear n0_ n1_ n2_ n3_; clear hg hw hp_) | ((with_reducible refine gate_callee (f := 26) rfl ?_); refine goesL_ (some 54) rfl rfl Try.func26 (by kernel_rfl) rfl #[.slice (some ⟨go25, 0, none⟩) y185.length co25] rfl (by (try simp only [List.map_toArray, List.map_cons, List.map_nil]); first | done | (rw [show y185.length = y182.length from (Kd.R_reads' HO184.out).1.symm] <;> rfl) | rfl | (simp only [List.length_drop, List.length_take]; rfl)) ?_; (with_reducible refine (impl_BoxOk.calls k1 _ _ y185 false _ ?side1 ?side2 A29.out).mono ?_); (case side1 => repeat (first | exact (Kd.R_reads' HO184.out).2.2 | (with_reducible refine Kd.C_alloc ?_ _) | (with_reducible refine Kd.C_drewN ?_ _) | (with_reducible refine Kd.C_drew ?_))); (case side2 => rw [show y185.length = y182.length from (Kd.R_reads' HO184.out).1.symm]; exact (Kd.R_reads' HO184.out).2.1); rintro e w45 ⟨rfl, hb⟩; refine ⟨_, rfl, ?_⟩; have n0_ := Aside0.mk (Kd.R_below (by (with_reducible repeat (first | apply Kd.R_alloc | apply Kd.R_drewN | apply Kd.R_drew)); exact HO_3.out) hb); have n1_ := Aside0.mk (Kd.R_below (by (with_reducible repeat (first | apply Kd.R_alloc | apply Kd.R_drewN | apply Kd.R_drew)); exact HO184.out) hb); have n2_ := Aside0.mk (Kd.R_below (by (with_reducible repeat (first | apply Kd.R_alloc | apply Kd.R_drewN | apply Kd.R_drew)); exact HO191.out) hb); have n3_ := Aside0.mk (below_step (by repeat (first | (with_reducible first | exact HB.out | apply below_alloc | apply pw_below_drewN | apply below_drew1) | exact HB.out)) hb); clear HO_3; clear HO184; clear HO191; clear HB; have HO_3 := n0_; have HO184 := n1_; have HO191 := n2_; have HB := n3_; clear n0_ n1_ n2_ n3_; (try clear hb); (try clear hb2); (try clear hk); (try clear hi)) | (go_at_call 26; refine calls_of_args (args' := #[.slice (some ⟨go28, 0, none⟩) y192.length co28]) (by first | (rw [show y192.length = y189.length from (Kd.R_reads' HO191.out).1.symm] <;> rfl) | rfl) ?_; (with_reducible refine (impl_BoxOk.calls k1 _ _ y192 false _ ?side1 ?side2 A31.out).mono ?_); (case side1 => repeat (first | exact (Kd.R_reads' HO191.out).2.2 | (with_reducible refine Kd.C_alloc ?_ _) | (with_reducible refine Kd.C_drewN ?_ _) | (with_reducible refine Kd.C_drew ?_))); (case side2 => rw [show y192.length = y189.length from (Kd.R_reads' HO191.out).1.symm]; exact (Kd.R_reads' HO191.out).2.1); rintro e w46 ⟨rfl, hb⟩; have n0_ := Aside0.mk (Kd.R_below (by (with_reducible repeat (first | apply Kd.R_alloc | apply Kd.R_drewN | apply Kd.R_drew)); exact HO_3.out) hb); have n1_ := Aside0.mk (Kd.R_below (by (with_reducible repeat (first | apply Kd.R_alloc | apply Kd.R_drewN | apply Kd.R_drew)); exact HO184.out) hb); have n2_ := Aside0.mk (Kd.R_below (by (with_reducible repeat (first | apply Kd.R_alloc | apply Kd.R_drewN | apply Kd.R_drew)); exact HO191.out) hb); have n3_ := Aside0.mk (below_step (by repeat (first | (with_reducible first | exact HB.out | apply below_alloc | apply pw_below_drewN | apply below_drew1) | exact HB.out)) hb); clear HO_3; clear HO184; clear HO191; clear HB; have HO_3 := n0_; have HO184 := n1_; have HO191 := n2_; have HB := n3_; clear n0_ n1_ n2_ n3_; (try clear hb); (try clear hb2); (try clear hk); (try clear hi)) | (go_at_call 24; refine calls_of_args (args' := #[.slice (some ⟨go25, 0, none⟩) y185.length co25, .slice Ao17 x3_1.length co17]) (by first | (rw [show y185.length = y182.length from (Kd.R_reads' HO184.out).1.symm] <;> rfl) | rfl) ?_; (with_reducible refine (impl_BoxSame.calls k1 _ _ y185 _ _ x3_1 false _ ?side1 ?side2 ?side3 ?side4 A33.out).mono ?_); (case side1 => repeat (first | exact (Kd.R_reads' HO184.out).2.2 | (with_reducible refine Kd.C_alloc ?_ _) | (with_reducible refine Kd.C_drewN ?_ _) | (with_reducible refine Kd.C_drew ?_))); (case side2 => rw [show y185.length = y182.length from (Kd.R_reads' HO184.out).1.symm]; exact (Kd.R_reads' HO184.out).2.1); (case side3 => repeat (first | exact (Kd.R_reads' HO_3.out).2.2 | (with_reducible refine Kd.C_alloc ?_ _) | (with_reducible refine Kd.C_drewN ?_ _) | (with_reducible refine Kd.C_drew ?_))); (case side4 => exact (Kd.R_reads' HO_3.out).2.1); rintro e w' ⟨rfl, ⟨nd, rfl⟩⟩))
                                  (try simp only [← hl3_1])
                                  go_roundg k1
                                  case measure => have := HK1.out; omega
                                  case rel => exact ⟨(x3_1), (wrap64 (x5_1 + 1)), (by first | rfl | (simp; done) | (simp [*]; done)), H', ⟨by have := HK1.out; omega⟩, ⟨by (try simp only [hl3_1]); (with_reducible repeat (first | apply Kd.R_alloc | apply Kd.R_drewN | apply Kd.R_drew)); exact Kd.R_mono HO_3.out (fun _ hk => trivial)⟩, ⟨by repeat (first | (with_reducible first | exact HB.out | apply below_alloc | apply pw_below_drewN | apply below_drew1) | exact HB.out)⟩⟩
                          · rw [if_neg c27] at H
                            exact absurd H (by simp)
                        · rw [if_neg c26] at H
                          exact absurd H (by simp)
                      · rw [if_neg c24] at H
                        exact absurd H (by simp)
                    · rw [if_neg c23] at H
                      exact absurd H (by simp)
                  · rw [if_neg c22] at H
                    exact absurd H (by simp)
                · rw [if_neg c21] at H
                  have c21b0 : decide (x5_1 < (x3_1.length : Int)) = false := decide_eq_false c21
                  clear c21
                  obtain rfl := Option.some.inj H
                  go_wp2
                  go_ret
                  exact ⟨by first | rfl | (simp [errW_none, errW_some] <;> rfl) | (simp [*, errW_none, errW_some] <;> rfl), by repeat (first | (with_reducible first | exact HB.out | apply below_alloc | apply pw_below_drewN | apply below_drew1) | exact HB.out)⟩
          · replace c13 := Bool.eq_false_iff.mpr c13
            subst c13
            have H1 : (some true) = some r := by rw [if_neg (show ¬ (false = true) by decide)] at H; exact H
            clear H
            have H := H1
            clear H1
            obtain rfl := Option.some.inj H
            go_enter Try.func9, Try.ntmps9
            go_wp2_with (first | ((with_reducible refine gate_callee (f := 32) rfl ?_); refine goesL_ (some 12) rfl rfl Try.func32 (by kernel_rfl) rfl #[.slice A0 l0.length c0] rfl (by (try simp only [List.map_toArray, List.map_cons, List.map_nil]); first | done | rfl | (simp only [List.length_drop, List.length_take]; rfl)) ?_; (with_reducible refine (spec_DrawBoxOk.calls k _ _ l0 t166 _ ?side1 ?side2 A3.out).mono ?_); (case side1 => repeat (first | exact HR0.out | (with_reducible refine Kd.C_alloc ?_ _) | (with_reducible refine Kd.C_drewN ?_ _) | (with_reducible refine Kd.C_drew ?_))); (case side2 => exact HC0.out); rintro e w47 ⟨v167, rfl, ho0, hb⟩; refine ⟨_, rfl, ?_⟩; have n0_ := Aside0.mk (Kd.R_lower ho0 (below_size (by repeat (first | (with_reducible first | exact HB.out | apply below_alloc | apply pw_below_drewN | apply below_drew1) | exact HB.out)))); have n1_ := Aside0.mk (below_step (by repeat (first | (with_reducible first | exact HB.out | apply below_alloc | apply pw_below_drewN | apply below_drew1) | exact HB.out)) hb); clear HB; have HO168 := n0_; have HB := n1_; clear n0_ n1_; (try clear hb); (try clear hb2); (try clear hk); (try clear hi); (try clear ho0)) | ((with_reducible refine gate_callee (f := 17) rfl ?_); refine goesL_ (some 13) rfl rfl Try.func17 (by kernel_rfl) rfl #[] rfl (by (try simp only [List.map_toArray, List.map_cons, List.map_nil]); first | done | rfl | (simp only [List.length_drop, List.length_take]; rfl)) ?_; (with_reducible refine (impl_BoxOpen.calls  t169 _ A4.out).mono ?_); rintro e w48 ⟨v170, rfl, ho0, hb⟩; refine ⟨_, rfl, ?_⟩; have n0_ := Aside0.mk (Kd.R_elder' (by (with_reducible repeat (first | apply Kd.R_alloc | apply Kd.R_drewN | apply Kd.R_drew)); exact HO168.out) (Kd.R_base ho0) hb); have n1_ := Aside0.mk (Kd.R_lower (Kd.R_new' ho0 (Kd.R_lt (by (with_reducible repeat (first | apply Kd.R_alloc | apply Kd.R_drewN | apply Kd.R_drew)); exact HO168.out))) (below_size (by repeat (first | (with_reducible first | exact HB.out | apply below_alloc | apply pw_below_drewN | apply below_drew1) | exact HB.out)))); have n2_ := Aside0.mk (below_step (by repeat (first | (with_reducible first | exact HB.out | apply below_alloc | apply pw_below_drewN | apply below_drew1) | exact HB.out)) hb); clear HO168; clear HB; have HO168 := n0_; have HO171 := n1_; have HB := n2_; clear n0_ n1_ n2_; (try clear hb); (try clear hb2); (try clear hk); (try clear hi); (try clear ho0); obtain ⟨Ao49, co49, eo49⟩ := Kd.R_slice HO171.out; subst eo49; obtain ⟨Ao50, co50, eo50⟩ := Kd.R_slice HO168.out; subst eo50) | (go_at_call 26; (with_reducible refine (impl_BoxOk.calls k _ _ t166 t172 _ ?side1 ?side2 A6.out).mono ?_); (case side1 => repeat (first | exact (Kd.R_reads' HO168.out).2.2 | (with_reducible refine Kd.C_alloc ?_ _) | (with_reducible refine Kd.C_drewN ?_ _) | (with_reducible refine Kd.C_drew ?_))); (case side2 => exact (Kd.R_reads' HO168.out).2.1); rintro e w51 ⟨rfl, hb⟩; have n0_ := Aside0.mk (Kd.R_below (by (with_reducible repeat (first | apply Kd.R_alloc | apply Kd.R_drewN | apply Kd.R_drew)); exact HO168.out) hb); have n1_ := Aside0.mk (Kd.R_below (by (with_reducible repeat (first | apply Kd.R_alloc | apply Kd.R_drewN | apply Kd.R_drew)); exact HO171.out) hb); have n2_ := Aside0.mk (below_step (by repeat (first | (with_reducible first | exact HB.out | apply below_alloc | apply pw_below_drewN | apply below_drew1) | exact HB.out)) hb); clear HO168; clear HO171; clear HB; have HO168 := n0_; have HO171 := n1_; have HB := n2_; clear n0_ n1_ n2_; (try clear hb); (try clear hb2); (try clear hk); (try clear hi)) | (go_at_call 25; (with_reducible refine (spec_BoxOk.calls k _ _ t166 t173 _ ?side1 ?side2 A7.out).mono ?_); (case side1 => repeat (first | exact (Kd.R_reads' HO168.out).2.2 | (with_reducible refine Kd.C_alloc ?_ _) | (with_reducible refine Kd.C_drewN ?_ _) | (with_reducible refine Kd.C_drew ?_))); (case side2 => exact (Kd.R_reads' HO168.out).2.1); rintro e w' ⟨rfl, ⟨nd, rfl⟩⟩) | (go_at_call 16; (with_reducible refine (spec_BoxOpen.calls  t174 _ A9.out).mono ?_); rintro e w52 ⟨v175, rfl, ho0, hb⟩; have n0_ := Aside0.mk (Kd.R_elder' (by (with_reducible repeat (first | apply Kd.R_alloc | apply Kd.R_drewN | apply Kd.R_drew)); exact HO168.out) (Kd.R_base ho0) hb); have n1_ := Aside0.mk (Kd.R_elder' (by (with_reducible repeat (first | apply Kd.R_alloc | apply Kd.R_drewN | apply Kd.R_drew)); exact HO171.out) (Kd.R_base ho0) hb); have n2_ := Aside0.mk (Kd.R_lower (Kd.R_new' (Kd.R_new' ho0 (Kd.R_lt (by (with_reducible repeat (first | apply Kd.R_alloc | apply Kd.R_drewN | apply Kd.R_drew)); exact HO168.out))) (Kd.R_lt (by (with_reducible repeat (first | apply Kd.R_alloc | apply Kd.R_drewN | apply Kd.R_drew)); exact HO171.out))) (below_size (by repeat (first | (with_reducible first | exact HB.out | apply below_alloc | apply pw_below_drewN | apply below_drew1) | exact HB.out)))); have n3_ := Aside0.mk (below_step (by repeat (first | (with_reducible first | exact HB.out | apply below_alloc | apply pw_below_drewN | apply below_drew1) | exact HB.out)) hb); clear HO168; clear HO171; clear HB; have HO168 := n0_; have HO171 := n1_; have HO176 := n2_; have HB := n3_; clear n0_ n1_ n2_ n3_; (try clear hb); (try clear hb2); (try clear hk); (try clear hi); (try clear ho0); obtain ⟨Ao53, co53, eo53⟩ := Kd.R_slice HO176.out; subst eo53) | (go_at_call 24; (with_reducible refine (impl_BoxSame.calls k _ _ t169 _ _ t174 true _ ?side1 ?side2 ?side3 ?side4 A10.out).mono ?_); (case side1 => repeat (first | exact (Kd.R_reads' HO171.out).2.2 | (with_reducible refine Kd.C_alloc ?_ _) | (with_reducible refine Kd.C_drewN ?_ _) | (with_reducible refine Kd.C_drew ?_))); (case side2 => exact (Kd.R_reads' HO171.out).2.1); (case side3 => repeat (first | exact (Kd.R_reads' HO176.out).2.2 | (with_reducible refine Kd.C_alloc ?_ _) | (with_reducible refine Kd.C_drewN ?_ _) | (with_reducible refine Kd.C_drew ?_))); (case side4 => exact (Kd.R_reads' HO176.out).2.1); rintro e w' ⟨rfl, ⟨nd, rfl⟩⟩) | ((with_reducible refine gate_callee (f := 25) rfl ?_); refine goesL_ (some 31) rfl rfl Try.func25 (by kernel_rfl) rfl #[.slice Ao50 t166.length co50] rfl (by (try simp only [List.map_toArray, List.map_cons, List.map_nil]); first | done | rfl | (simp only [List.length_drop, List.length_take]; rfl)) ?_; (with_reducible refine (spec_BoxOk.calls k _ _ t166 false _ ?side1 ?side2 A12.out).mono ?_); (case side1 => repeat (first | exact (Kd.R_reads' HO168.out).2.2 | (with_reducible refine Kd.C_alloc ?_ _) | (with_reducible refine Kd.C_drewN ?_ _) | (with_reducible refine Kd.C_drew ?_))); (case side2 => exact (Kd.R_reads' HO168.out).2.1); rintro e w' ⟨rfl, ⟨nd, rfl⟩⟩; refine ⟨_, rfl, ?_⟩))
            go_ret
            exact ⟨by first | rfl | (simp [errW_none, errW_some] <;> rfl) | (simp [*, errW_none, errW_some] <;> rfl), by repeat (first | (with_reducible first | exact HB.out | apply below_alloc | apply pw_below_drewN | apply below_drew1) | exact HB.out)⟩
        · replace c11 := Bool.eq_false_iff.mpr c11
          subst c11
          have H1 : (some false) = some r := by rw [if_neg (show ¬ (false = true) by decide)] at H; exact H
          clear H
          have H := H1
          clear H1
          exact absurd ((Option.some.inj H).trans HT_.out) (by decide)
    · rw [if_neg c5] at H
      have c5b0 : ((t169.length : Int) == 4) = false := beq_eq_false_iff_ne.mpr c5
      have c5b1 : ((t169.length : Int) != 4) = true := bne_iff_ne.mpr c5
      exact absurd ((Option.some.inj H).trans HT_.out) (by decide)

/-- THE ONE PURE STATEMENT of laws_FnBoxOpen: yours. -/
def laws_FnBoxOpen.Pure : Prop := ∀ (l0 : List Int), l0.length ≤ maxLen → l0.length * 1 ≤ 140737488351232 → (∀ x ∈ l0, (Lit.int .u8 x).wf = true) → ∃ k, laws_FnBoxOpen.f k l0 = some true
theorem laws_FnBoxOpen.walk (P : laws_FnBoxOpen.Pure) (a0 : Option Addr) (len0 cap0 : Nat) (z0 : List Int) (w : World) (w0 : (a0 = none ∧ len0 = 0 ∧ cap0 = 0 ∧ z0 = []) ∨ ∃ x, a0 = some x ∧ len0 ≤ cap0 ∧ cap0 ≤ maxLen ∧ z0.length = cap0 ∧ (∀ i, i < z0.length → w.cell? (x.add i) = some (.int .u8 (z0.getD i 0))) ∧ ∀ n ∈ z0, (Lit.int .u8 n).wf = true) (y0 : len0 * 1 ≤ 140737488351232) :
    Calls Try.prog 9 #[.slice a0 len0 cap0] w fun e w' => e = .returned (.bool true) ∧ Below w.heap.size w w' := by
  obtain ⟨l0, rfl, hr0, hm0, hw0, hc0⟩ := ReadsInt.ofRowC w0
  obtain ⟨k, h⟩ := P l0 hm0 y0 hw0
  refine (laws_FnBoxOpen.calls k _ _ l0 true w (Kd.C_of_reads (d := (0 : Int)) (h1 := fun _ => rfl) hr0) hc0 rfl h).mono ?_
  rintro e w' ⟨rfl, hd⟩
  exact ⟨rfl, hd⟩

end Go.Proofs.Ythojmgliknacfaa.PFnBoxOpen
